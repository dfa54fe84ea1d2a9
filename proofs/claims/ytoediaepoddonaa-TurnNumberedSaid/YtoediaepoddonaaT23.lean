/- Walks: Numbered of the program. -/
import Derived.Test.YtoediaepoddonaaT22
namespace Go.Proofs.Ytoediaepoddonaa
open Go Go.Proofs Go.Eng Go.Run Tab
set_option maxRecDepth 100000
set_option linter.unusedSimpArgs false
set_option linter.unusedVariables false
set_option maxHeartbeats 1000000
theorem tdiv_neg_range {r k lo : Int} (h1 : lo ≤ r) (h2 : r ≤ 0) (hk : 1 ≤ k) : lo ≤ r.tdiv k ∧ r.tdiv k ≤ 0 := by
  obtain ⟨m, rfl⟩ : ∃ m : Nat, r = -(m : Int) := ⟨r.natAbs, by omega⟩
  obtain ⟨q, rfl⟩ : ∃ q : Nat, k = q := ⟨k.toNat, by omega⟩
  rw [Int.neg_tdiv, div_int]
  have := Nat.div_le_self m q
  generalize m / q = z at *
  omega
theorem tmod_i64 {r k : Int} (h1 : -9223372036854775808 ≤ r) (h2 : r ≤ 9223372036854775807) (hk : 1 ≤ k) (hk2 : k ≤ 100) : True := trivial
theorem lowD_next (i a : Nat) : zs (lowD (i + 1) a) = zs (lowD i a) ++ [((a / facF i % (i + 1) : Nat) : Int)] := by rw [lowD, zs_append]; rfl
theorem numbered40 (shops number : Int) (h : Eng.Heap) (hlo : -9223372036854775808 ≤ number) (hhi : number ≤ 9223372036854775807) :
    CallsH Try.prog 40 #[.int .i64 shops, .int .i64 number] h (fun v h' => Ext h h' ∧ ListP (nbrE shops number) (nbrZ shops number) h' v) := by
  refine CallsH_of_exec Try.func40 rfl bod40 ?_
  simp only [Try.ntmps40, Try.results40, coreS, stK_some, splice, Value.cells, Value.oneCell', Nat.reduceAdd, Nat.reduceSub, Nat.reduceMul, Nat.reduceLeDiff, Int.reduceEq, Nat.reduceEqDiff, agg3, by3, inf3, sz3, zero3, Try.underlying22]
  refine CallsH.mono (open59 shops none 0 0 [] h (IntsV.nil h) (by omega)) ?_
  rintro v h1 ⟨x1, ⟨h0, rb, rfl, hb, hb2⟩ | ⟨hne, rfl⟩⟩
  · have hsh : 1 ≤ shops ∧ shops ≤ 12 := by
      have := openE_ne (n := shops)
      omega
    obtain ⟨n, rfl⟩ : ∃ n : Nat, shops = n := ⟨shops.toNat, by omega⟩
    have hn1 : 1 ≤ n := by omega
    have hn2 : n ≤ 12 := by omega
    obtain ⟨gone, a0, hg12, ha0, hr, hleft⟩ := RndV.new hn1 hn2 hb
    have hrb := lt_of_get hb
    simp only [h0, coreS, Value.cells, Value.oneCell', Nat.reduceAdd, Nat.reduceSub, Nat.reduceMul, Nat.reduceLeDiff, Int.reduceEq, Nat.reduceEqDiff, agg3, by3, inf3, sz3, zero3, Try.underlying22]
    refine WP_loopI [8, 9, 10, 25, 26, 27, 28, 29, 30, 31, 32, 33, 34, 35, 36, 37, 38, 39] (fun e h' => Ext h1 h' ∧ ∃ (i : Nat) (a2 : Option Addr) (c2 : Nat) (ws : List Int) (r : Int), i ≤ n ∧ e 25 = .int .i64 i ∧ e 8 = .slice a2 i c2 ∧ OwnI h1.size h' 3 a2 i c2 ws ∧ e 9 = .int .i64 r ∧
      (0 ≤ number → ws = zs (lowD i number.toNat) ∧ r = ((number.toNat / facF i : Nat) : Int)) ∧ (number < 0 → number ≤ r ∧ r ≤ 0)) (fun e _ => match e 25 with | .int _ m => n - m.toNat | _ => 0) ?_ ?_
    · refine ⟨Ext.refl _, 0, none, 0, [], number, by omega, rfl, rfl, OwnI.nil _ _ _, rfl, fun h => ⟨rfl, ?_⟩, fun h => ⟨by omega, by omega⟩⟩
      show number = ((number.toNat / 1 : Nat) : Int)
      rw [Nat.div_one]
      omega
    · rintro e h' ⟨x, i, a2, c2, ws, r, hi, he25, he8, O, he9, hpos, hneg⟩
      simp only [he25, he8, he9, coreS, Value.cells, Value.oneCell', Nat.reduceAdd, Nat.reduceSub, Nat.reduceMul, Nat.reduceLeDiff, Int.reduceEq, Nat.reduceEqDiff, agg3, by3, inf3, sz3, zero3, Try.underlying22]
      have hrr : -9223372036854775808 ≤ r ∧ r ≤ 9223372036854775807 := by
        rcases Int.lt_or_le number 0 with hc | hc
        · have := hneg hc; omega
        · have := (hpos hc).2
          have := Nat.div_le_self number.toNat (facF i)
          generalize number.toNat / facF i = z at *
          omega
      refine ⟨fun hlt => ?_, fun hge => ?_⟩
      · have O1 := O.ext ((Ext.refl h').push (.cells #[.int .i64 (r.tmod ((i : Int) + 1))] 3))
        repeat (refine And.intro (by first | omega | (rw [inK_i64]; omega) | rfl | assumption) ?_)
        refine app22 rfl rfl O1 (by have := x.size; simp; omega) intsV_one (by omega) fun a3 c3 h2 O2 A => ?_
        simp only [he9, he25, coreS, Value.cells, Value.oneCell', Nat.reduceAdd, Nat.reduceSub, Nat.reduceMul, Nat.reduceLeDiff, Int.reduceEq, Nat.reduceEqDiff, agg3, by3, inf3, sz3, zero3, Try.underlying22]
        have hq : InK .i64 (r.tdiv ((i : Int) + 1)) := by
          rw [inK_i64]
          rcases Int.lt_or_le number 0 with hc | hc
          · have := hneg hc
            have := tdiv_neg_range this.1 this.2 (show (1 : Int) ≤ (i : Int) + 1 by omega)
            omega
          · rw [(hpos hc).2]
            rw [show (i : Int) + 1 = ((i + 1 : Nat) : Int) by omega, div_int]
            have := Nat.div_le_self (number.toNat / facF i) (i + 1)
            have := Nat.div_le_self number.toNat (facF i)
            generalize number.toNat / facF i / (i + 1) = z at *
            generalize number.toNat / facF i = z2 at *
            omega
        repeat (refine And.intro (by first | omega | (rw [inK_i64]; omega) | rfl | assumption) ?_)
        refine roundK_mk (by kernel_rfl) ⟨A.extN O1 (x.push _) (Nat.le_refl _), i + 1, a3, c3, _, _, by omega, rfl, rfl, O2, rfl, fun hc => ?_, fun hc => ?_⟩ ?_
        · obtain ⟨hw, hr2⟩ := hpos hc
          rw [lowD_next, hw, hr2, show (i : Int) + 1 = ((i + 1 : Nat) : Int) by omega, mod_int, div_int, facF_succ, Nat.div_div_eq_div_mul]
          exact ⟨rfl, rfl⟩
        · have := hneg hc
          exact tdiv_neg_range this.1 this.2 (by omega)
        · show n - ((i : Int) + 1).toNat < n - (i : Int).toNat
          omega
      · have hin : i = n := by omega
        subst hin
        have err : (number < 0 ∨ (facF i : Int) ≤ number) → nbrE i number = 2 := fun hc => by rw [nbrE, if_pos hsh, Int.toNat_natCast, if_pos hc]
        have hf := facF_le i hn2
        refine ⟨fun hc => ?_, fun hc => ⟨fun hc2 => ?_, fun hc2 => ?_⟩⟩
        · rw [err (.inl hc)]
          exact ⟨x1.trans x, listP_err _ (if_neg (by rw [err (.inl hc)]; decide))⟩
        · have hbig : (facF i : Int) ≤ number := by
            rw [(hpos (by omega)).2] at hc2
            rcases Nat.lt_or_ge number.toNat (facF i) with h5 | h5
            · rw [Nat.div_eq_of_lt h5] at hc2
              omega
            · omega
          rw [err (.inr hbig)]
          exact ⟨x1.trans x, listP_err _ (if_neg (by rw [err (.inr hbig)]; decide))⟩
        · obtain ⟨a, rfl⟩ : ∃ a : Nat, number = a := ⟨number.toNat, by omega⟩
          obtain ⟨hw, hr2⟩ := hpos (by omega)
          rw [Int.toNat_natCast] at hw hr2
          have hsmall : a < facF i := by
            rcases Nat.lt_or_ge a (facF i) with h5 | h5
            · exact h5
            · have := Nat.div_pos h5 hf.2
              generalize a / facF i = z at *
              omega
          have hok : nbrE i a = 0 := by rw [nbrE, if_pos hsh, Int.toNat_natCast, if_neg (by omega)]
          subst hw
          have hO := O.block (by omega)
          obtain ⟨gd, tl, rfl, hgd, _⟩ := hO
          refine CallsH.mono (reverse77 h1.size gd i c2 _ h' O (by omega) (by omega)) ?_
          rintro v h2 ⟨rfl, u2, Od⟩
          have hds : (zs (lowD i a)).reverse = zs (digN i a) := by simp [zs, digN, List.map_reverse]
          rw [hds] at Od
          have x2 : Ext h1 h2 := u2.ext x hgd
          have hr2' := x2.get hr
          simp only [coreS, Value.cells, Value.oneCell', Nat.reduceAdd, Nat.reduceSub, Nat.reduceMul, Nat.reduceLeDiff, Int.reduceEq, Nat.reduceEqDiff, agg3, by3, inf3, sz3, zero3, Try.underlying22]
          refine CallsH.mono (left79 _ _) ?_
          rintro v h3 ⟨rfl, rfl⟩
          simp only [coreS, Value.cells, Value.oneCell', Nat.reduceAdd, Nat.reduceSub, Nat.reduceMul, Nat.reduceLeDiff, Int.reduceEq, Nat.reduceEqDiff, agg3, by3, inf3, sz3, zero3, Try.underlying22]
          refine CallsH.mono (collect78 _ _ _ (left_seq (bx := h2.size) hn1 hn2 ha0 hg12) (by simp [zs, hleft]; omega) fun h' xx => ⟨xx.get push_new, xx.get (push_old hr2')⟩) ?_
          rintro v h4 ⟨x4, al, cl, rfl, Ol⟩
          rw [hleft] at Ol
          rw [zs_length, List.length_range] at Ol
          obtain ⟨gl, tll, rfl, hgl, _⟩ := Ol.block (by omega)
          simp only [push_size] at hgl
          have hgd2 := (Od.lt rfl).1
          simp only [hleft, zs_length, List.length_range, coreS, Value.cells, Value.oneCell', Nat.reduceAdd, Nat.reduceSub, Nat.reduceMul, Nat.reduceLeDiff, Int.reduceEq, Nat.reduceEqDiff, agg3, by3, inf3, sz3, zero3, Try.underlying22]
          repeat (refine And.intro (by first | omega | (rw [inK_i64]; omega) | rfl | assumption) ?_)
          simp only [List.flatten_replicate_singleton, coreS, Value.cells, Value.oneCell', Nat.reduceAdd, Nat.reduceSub, Nat.reduceMul, Nat.reduceLeDiff, Int.reduceEq, Nat.reduceEqDiff, agg3, by3, inf3, sz3, zero3, Try.underlying22]
          have x24 : Ext h2 h4 := ((Ext.refl h2).push _).trans x4
          have Od4 := Od.ext x24
          have hgl4 := (Ol.lt rfl).1
          have Oo : OwnI h1.size (h4.push (.cells (List.replicate i (.int .i64 0)).toArray 3)) 3 (some ⟨h4.size, 0, none⟩) 0 i [] := OwnI.of_block (xs := []) (tl := List.replicate i (.int .i64 0)) (by have := x2.size; have := x24.size; omega) push_new (by simp) (by simp)
          have Ol5 := (Ol.mono (m' := h1.size) (by have := x2.size; simp; omega)).ext ((Ext.refl h4).push (.cells (List.replicate i (.int .i64 0)).toArray 3))
          have Od5 := Od4.ext ((Ext.refl h4).push (.cells (List.replicate i (.int .i64 0)).toArray 3))
          have hfit := digN_fits i a
          have hdl := digN_length i a
          refine WP_loopI [11, 12, 14, 55, 56, 57, 58, 59, 60, 61, 62, 63, 64, 65, 66, 67, 68, 69, 70, 71] (fun e h' => Ext h1 h' ∧ ∃ (j : Nat) (ao : Option Addr) (co cl : Nat), j ≤ i ∧ e 55 = .int .i64 j ∧ e 12 = .slice ao j co ∧ OwnI h1.size h' 3 ao j co (zs (ofDig (List.range i) ((digN i a).take j))) ∧
            e 11 = .slice (some ⟨gl, 0, none⟩) (i - j) cl ∧ OwnI h1.size h' 3 (some ⟨gl, 0, none⟩) (i - j) cl (zs (restL (List.range i) ((digN i a).take j))) ∧ OwnI h1.size h' 3 (some ⟨gd, 0, none⟩) i c2 (zs (digN i a)) ∧ (∀ p, ao = some p → p.block ≠ gl ∧ p.block ≠ gd)) (fun e _ => match e 55 with | .int _ m => i - m.toNat | _ => 0) ?_ ?_
          · refine ⟨(x2.trans x24).push _, 0, _, i, cl, by omega, rfl, rfl, Oo, rfl, Ol5, Od5, fun p hp => ?_⟩
            cases hp
            show h4.size ≠ gl ∧ h4.size ≠ gd
            have := x24.size
            constructor
            · simp only at hgl4; omega
            · simp only at hgd2; omega
          · rintro e h5 ⟨x5, j, ao, co, cl2, hj, he55, he12, Oo2, he11, Ol2, Od2, hap⟩
            simp only [he55, he12, he11, coreS, Value.cells, Value.oneCell', Nat.reduceAdd, Nat.reduceSub, Nat.reduceMul, Nat.reduceLeDiff, Int.reduceEq, Nat.reduceEqDiff, agg3, by3, inf3, sz3, zero3, Try.underlying22]
            refine ⟨fun hlt2 => ?_, fun hge2 => ?_⟩
            · have hjl : j < (zs (digN i a)).length := by rw [zs_length]; omega
              have hdg := fits_get _ _ j hfit (by omega)
              obtain ⟨d, hd⟩ : ∃ d, d = (digN i a).getD j 0 := ⟨_, rfl⟩
              obtain ⟨L, hL⟩ : ∃ L, L = restL (List.range i) ((digN i a).take j) := ⟨_, rfl⟩
              have hLl : L.length = i - j := by
                rw [hL, restL_length _ _ (by rw [List.length_range]; exact fits_take _ _ _ hfit), List.length_range, List.length_take]; omega
              rw [← hL] at Ol2
              rw [← hd] at hdg
              have hdl2 : d < (zs L).length := by rw [zs_length]; omega
              have hcd := Od2.ints.cell hjl
              rw [zs_get, ← hd] at hcd
              have hcl := Ol2.ints.cell hdl2
              rw [zs_get] at hcl
              simp only [eltP_some, Nat.zero_add, cellH_eq] at hcd hcl
              simp only [hcd, hcl, coreS, Value.cells, Value.oneCell', Nat.reduceAdd, Nat.reduceSub, Nat.reduceMul, Nat.reduceLeDiff, Int.reduceEq, Nat.reduceEqDiff, agg3, by3, inf3, sz3, zero3, Try.underlying22]
              repeat (refine And.intro (by first | omega | (rw [inK_i64]; omega) | rfl | assumption) ?_)
              have Oo3 := Oo2.ext ((Ext.refl h5).push (.cells #[.int .i64 (L.getD d 0 : Nat)] 3))
              have Ol3 := Ol2.ext ((Ext.refl h5).push (.cells #[.int .i64 (L.getD d 0 : Nat)] 3))
              have Od3 := Od2.ext ((Ext.refl h5).push (.cells #[.int .i64 (L.getD d 0 : Nat)] 3))
              refine app22 rfl rfl Oo3 (by have := x5.size; simp; omega) intsV_one (by omega) fun a6 c6 h6 O6 A => ?_
              have apl : Apart ao (some ⟨gl, 0, none⟩) := fun p q hp hq => by cases hq; exact (hap p hp).1
              have apd : Apart ao (some ⟨gd, 0, none⟩) := fun p q hp hq => by cases hq; exact (hap p hp).2
              have Ol6 := Ol3.beside (xs := []) (len := 0) (cap := 0) (m := 0) (el := 3) A apl
              have Od6 := Od3.beside (xs := []) (len := 0) (cap := 0) (m := 0) (el := 3) A apd
              have apl6 := apl.app A Ol3
              have apd6 := apd.app A Od3
              have x6 := A.extN Oo3 (x5.push _) (Nat.le_refl _)
              simp only [he11, coreS, Value.cells, Value.oneCell', Nat.reduceAdd, Nat.reduceSub, Nat.reduceMul, Nat.reduceLeDiff, Int.reduceEq, Nat.reduceEqDiff, agg3, by3, inf3, sz3, zero3, Try.underlying22]
              repeat (refine And.intro (by first | omega | (rw [inK_i64]; omega) | rfl | assumption) ?_)
              refine CallsH.mono (delete76 h1.size gl (i - j) cl2 d (zs L) h6 Ol6 (by omega) (by omega)) ?_
              rintro v h7 ⟨rfl, u7, O7⟩
              have hgl6 := Ol6.lt rfl
              have hne : gd ≠ gl := by
                have := x24.size
                simp only at hgd2
                omega
              simp only [he55, coreS, Value.cells, Value.oneCell', Nat.reduceAdd, Nat.reduceSub, Nat.reduceMul, Nat.reduceLeDiff, Int.reduceEq, Nat.reduceEqDiff, agg3, by3, inf3, sz3, zero3, Try.underlying22]
              refine ⟨by rw [inK_i64]; omega, roundK_mk (by kernel_rfl) ⟨u7.ext x6 hgl6.2, j + 1, a6, c6, cl2, by omega, rfl, rfl, ?_, ?_, ?_, ?_, ?_⟩ ?_⟩
              · rw [take_next (by omega), ofDig_snoc, ← hL, ← hd, zs_append]
                exact O6.keep fun p hp => u7.old _ (apl6 p _ hp rfl)
              · show Value.slice _ _ _ = Value.slice _ _ _
                rw [show i - (j + 1) = i - j - 1 by omega]
              · have e9 : (zs L).eraseIdx d = zs (restL (List.range i) ((digN i a).take (j + 1))) := by
                  rw [take_next (by omega), restL_snoc, ← hL, ← hd]
                  simp [zs, List.eraseIdx_eq_take_drop_succ, List.map_take, List.map_drop]
                rw [← e9, show i - (j + 1) = i - j - 1 by omega]
                exact O7
              · exact Od6.keep fun p hp => by cases hp; exact u7.old _ hne
              · exact fun p hp => ⟨apl6 p _ hp rfl, apd6 p _ hp rfl⟩
              · show i - ((j : Int) + 1).toNat < i - (j : Int).toNat
                omega
            · have hji : j = i := by omega
              subst hji
              rw [List.take_of_length_le (by omega)] at Oo2
              refine ⟨x1.trans x5, ao, j, co, by rw [hok], by omega, Oo2.cap, ?_⟩
              rw [nbrZ, if_pos hok, Int.toNat_natCast, Int.toNat_natCast]
              exact Oo2.ints
  · have hsh := openE_ne.1 hne
    have e6 : openE shops [] = 6 := by rw [openE_nil', if_neg hsh]
    have e : nbrE shops number = 6 := by rw [nbrE, if_neg hsh]
    simp only [e6, coreS, Value.cells, Value.oneCell', Nat.reduceAdd, Nat.reduceSub, Nat.reduceMul, Nat.reduceLeDiff, Int.reduceEq, Nat.reduceEqDiff, agg3, by3, inf3, sz3, zero3, Try.underlying22]
    rw [e]
    exact ⟨x1, listP_err _ (if_neg (by rw [e]; decide))⟩
end Go.Proofs.Ytoediaepoddonaa
