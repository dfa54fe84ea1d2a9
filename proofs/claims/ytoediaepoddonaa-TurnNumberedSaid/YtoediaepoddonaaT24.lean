/- Walks: TurnNumbers, TurnNumbered, TurnFirst. -/
import Derived.Test.YtoediaepoddonaaT23
namespace Go.Proofs.Ytoediaepoddonaa
open Go Go.Proofs Go.Eng Go.Run Tab
set_option maxRecDepth 100000
set_option linter.unusedSimpArgs false
set_option linter.unusedVariables false
set_option maxHeartbeats 1000000
theorem perW (n : Nat) (hn : n ≤ 12) : perF n n = wF n := by
  have : ∀ n < 13, perF n n = wF n := by decide +kernel
  exact this n (by omega)
/-- What Wish answers. -/
def WishQ (shops shop w e : Int) : Prop := (¬ (1 ≤ shops ∧ shops ≤ 12) ∧ w = 0 ∧ e = 6) ∨ ((1 ≤ shops ∧ shops ≤ 12) ∧ ¬ (0 ≤ shop ∧ shop < shops) ∧ w = 0 ∧ e = 3) ∨ ((1 ≤ shops ∧ shops ≤ 12) ∧ (0 ≤ shop ∧ shop < shops) ∧ wishP shops.toNat shop w e)
theorem wishP_one {n : Nat} {i w e w' e' : Int} (h : wishP n i w e) (h' : wishP n i w' e') : w = w' ∧ e = e' := by
  rcases h with ⟨rfl, a1, a2, a3, a4⟩ | ⟨rfl, rfl, a3⟩ <;> rcases h' with ⟨rfl, b1, b2, b3, b4⟩ | ⟨rfl, rfl, b3⟩
  · refine ⟨?_, rfl⟩
    rcases Int.lt_trichotomy w w' with h | h | h
    · exact absurd a3 (b4 w a1 h)
    · exact h
    · exact absurd b3 (a4 w' b1 h)
  · exact absurd a3 (b3 w a1 a2)
  · exact absurd b3 (a3 w' b1 b2)
  · exact ⟨rfl, rfl⟩
theorem wishQ_one {shops shop w e w' e' : Int} (h : WishQ shops shop w e) (h' : WishQ shops shop w' e') : w = w' ∧ e = e' := by
  rcases h with ⟨a1, a2, a3⟩ | ⟨a1, a2, a3, a4⟩ | ⟨a1, a2, a3⟩ <;> rcases h' with ⟨b1, b2, b3⟩ | ⟨b1, b2, b3, b4⟩ | ⟨b1, b2, b3⟩
  · exact ⟨by rw [a2, b2], by rw [a3, b3]⟩
  · exact absurd b1 a1
  · exact absurd b1 a1
  · exact absurd a1 b1
  · exact ⟨by rw [a3, b3], by rw [a4, b4]⟩
  · exact absurd b2 a2
  · exact absurd a1 b1
  · exact absurd a2 b2
  · exact wishP_one a3 b3
theorem wishR43 (shops shop : Int) (h : Eng.Heap) : CallsH Try.prog 43 #[.int .i64 shops, .int .i64 shop] h (fun v h' => h' = h ∧ ∃ w e, v = .tuple #[.int .i64 w, .int .i64 e] ∧ WishQ shops shop w e) := by
  refine CallsH_of_exec Try.func43 rfl bod43 ?_
  simp only [Try.ntmps43, Try.results43, coreS, stK_some, splice, Value.cells, Value.oneCell', Nat.reduceAdd, Nat.reduceSub, Nat.reduceMul, Nat.reduceLeDiff, Int.reduceEq, Nat.reduceEqDiff]
  refine CallsH.mono (isShops61 _ _) ?_
  rintro v h1 ⟨rfl, rfl⟩
  by_cases h0 : openE shops [] = 0
  · have hsh : 1 ≤ shops ∧ shops ≤ 12 := by
      have := openE_ne (n := shops)
      omega
    obtain ⟨n, rfl⟩ : ∃ n : Nat, shops = n := ⟨shops.toNat, by omega⟩
    have hn : n ≤ 12 := by omega
    have hw := wF_le2 n hn
    have hpw := perW n hn
    simp only [h0, coreS, Value.cells, Value.oneCell', Nat.reduceAdd, Nat.reduceSub, Nat.reduceMul, Nat.reduceLeDiff, Int.reduceEq, Nat.reduceEqDiff]
    refine ⟨fun hlt => ⟨_, _, rfl, .inr (.inl ⟨hsh, by omega, rfl, rfl⟩)⟩, fun hge => ⟨fun hlt => ⟨_, _, rfl, .inr (.inl ⟨hsh, by omega, rfl, rfl⟩)⟩, fun hge2 => ?_⟩⟩
    refine WP_loopI [4, 5, 6, 7, 8, 19, 20, 21, 22, 23, 24, 25, 26, 27, 28, 29, 30, 31, 32, 33, 34, 35, 36, 37, 38, 39] (fun g h' => h' = h1 ∧ ∃ s : Nat, s ≤ wF n ∧ g 6 = .int .i64 ((s : Int) + 1) ∧ ∀ t : Int, 1 ≤ t → t ≤ s → lastF t n ≠ shop) (fun g _ => match g 6 with | .int _ m => wF n + 1 - m.toNat | _ => 0) ⟨rfl, 0, by omega, rfl, fun t h1 h2 => by omega⟩ ?_
    rintro g h' ⟨rfl, s, hs, hg, hno⟩
    simp only [hg, coreS, Value.cells, Value.oneCell', Nat.reduceAdd, Nat.reduceSub, Nat.reduceMul, Nat.reduceLeDiff, Int.reduceEq, Nat.reduceEqDiff]
    refine CallsH.mono (period47 n n h' hn (Nat.le_refl _)) ?_
    rintro v h2 ⟨rfl, rfl⟩
    rw [hpw]
    simp only [hg, coreS, Value.cells, Value.oneCell', Nat.reduceAdd, Nat.reduceSub, Nat.reduceMul, Nat.reduceLeDiff, Int.reduceEq, Nat.reduceEqDiff]
    refine ⟨fun hle => ?_, fun hgt => ?_⟩
    · refine WP_loopI [7, 8, 26, 27, 28, 29, 30, 31, 32, 33, 34, 35] (fun e h3 => h3 = h2 ∧ ∃ k : Nat, 1 ≤ k ∧ k ≤ n ∧ e 8 = .int .i64 ((k : Int) + 1) ∧ e 7 = .int .i64 (lastF ((s : Int) + 1) k)) (fun e _ => match e 8 with | .int _ m => n + 1 - m.toNat | _ => 0) ⟨rfl, 1, by omega, by omega, rfl, ?_⟩ ?_
      · show Value.int _ _ = Value.int _ _
        congr 1
        simp [lastF]
      · rintro e h3 ⟨rfl, k, hk1, hk2, he8, he7⟩
        have hr := lastF_range ((s : Int) + 1) k
        have hr2 := hr.2 (by omega)
        simp only [he8, he7, coreS, Value.cells, Value.oneCell', Nat.reduceAdd, Nat.reduceSub, Nat.reduceMul, Nat.reduceLeDiff, Int.reduceEq, Nat.reduceEqDiff]
        refine ⟨fun hle2 => ?_, fun hgt2 => ?_⟩
        · refine ⟨by rw [inK_i64]; omega, by omega, by rw [inK_i64]; omega, roundK_mk (by kernel_rfl) ⟨rfl, k + 1, by omega, by omega, rfl, ?_⟩ ?_⟩
          · show Value.int _ _ = _
            rw [lastF, Int.tmod_eq_emod_of_nonneg (by omega)]
          · show n + 1 - ((k : Int) + 1 + 1).toNat < n + 1 - ((k : Int) + 1).toNat
            omega
        · have hkn : k = n := by omega
          subst hkn
          refine ⟨fun heq => ?_, fun hne => ?_⟩
          · refine ⟨_, _, rfl, .inr (.inr ⟨hsh, by omega, ?_⟩)⟩
            rw [Int.toNat_natCast]
            exact .inl ⟨rfl, by omega, by omega, heq, fun t h1 h2 => hno t h1 (by omega)⟩
          · refine ⟨by rw [inK_i64]; omega, roundK_mk (by kernel_rfl) ⟨rfl, s + 1, by omega, rfl, fun t h1 h2 => ?_⟩ ?_⟩
            · rcases Int.lt_or_le t ((s : Int) + 1) with h5 | h5
              · exact hno t h1 (by omega)
              · have : t = (s : Int) + 1 := by omega
                rw [this]
                exact hne
            · show wF k + 1 - ((s : Int) + 1 + 1).toNat < wF k + 1 - ((s : Int) + 1).toNat
              omega
    · refine ⟨_, _, rfl, .inr (.inr ⟨hsh, by omega, ?_⟩)⟩
      rw [Int.toNat_natCast]
      exact .inr ⟨rfl, rfl, fun t h1 h2 => hno t h1 (by omega)⟩
  · have hsh := openE_ne.1 h0
    simp only [h0, coreS, Value.cells, Value.oneCell', Nat.reduceAdd, Nat.reduceSub, Nat.reduceMul, Nat.reduceLeDiff, Int.reduceEq, Nat.reduceEqDiff]
    exact ⟨_, _, rfl, .inl ⟨hsh, rfl, rfl⟩⟩
theorem turnNumbers6 (a1 : Option Addr) (n1 c1 : Nat) (xs1 : List Int) (shops number shop : Int) (h : Eng.Heap) (I1 : IntsV h a1 n1 xs1) (hc1 : n1 ≤ c1) (hm1 : c1 ≤ maxLen) (hlo : -9223372036854775808 ≤ number ∧ number ≤ 9223372036854775807) :
    CallsH Try.prog 6 #[.slice a1 n1 c1, .int .i64 shops, .int .i64 number, .int .i64 shop] h (fun v h' => v = .bool true ∧ Ext h h') := by
  refine CallsH_of_exec Try.func6 rfl bod6 ?_
  simp only [Try.ntmps6, Try.results6, coreS, stK_some, splice, Value.cells, Value.oneCell', Nat.reduceAdd, Nat.reduceSub, Nat.reduceMul, Nat.reduceLeDiff, Int.reduceEq, Nat.reduceEqDiff]
  refine CallsH.mono (great17 a1 n1 c1 h) ?_
  rintro v h' ⟨rfl, rfl⟩
  simp only [coreS, Value.cells, Value.oneCell', Nat.reduceAdd, Nat.reduceSub, Nat.reduceMul, Nat.reduceLeDiff, Int.reduceEq, Nat.reduceEqDiff]
  refine ⟨fun hg => ?_, fun hg => ?_⟩
  · refine CallsH.mono (works18 _) ?_
    rintro v h2 ⟨rfl, x2⟩
    simp only [coreS, Value.cells, Value.oneCell', Nat.reduceAdd, Nat.reduceSub, Nat.reduceMul, Nat.reduceLeDiff, Int.reduceEq, Nat.reduceEqDiff]
    exact x2
  refine CallsH.mono (number38 a1 n1 c1 xs1 _ I1 (by omega)) ?_
  rintro v h3 ⟨x3, rfl⟩
  simp only [coreS, Value.cells, Value.oneCell', Nat.reduceAdd, Nat.reduceSub, Nat.reduceMul, Nat.reduceLeDiff, Int.reduceEq, Nat.reduceEqDiff]
  refine CallsH.mono (numberR39 a1 n1 c1 xs1 _ (I1.ext x3) hc1 (by omega)) ?_
  rintro v h4 ⟨rfl, rfl⟩
  simp only [coreS, Value.cells, Value.oneCell', Nat.reduceAdd, Nat.reduceSub, Nat.reduceMul, Nat.reduceLeDiff, Int.reduceEq, Nat.reduceEqDiff]
  refine CallsH.mono (numbered40 shops number _ hlo.1 hlo.2) ?_
  rintro v h5 ⟨x5, b1, m1, d1, rfl, k1, l1, J1⟩
  simp only [coreS, Value.cells, Value.oneCell', Nat.reduceAdd, Nat.reduceSub, Nat.reduceMul, Nat.reduceLeDiff, Int.reduceEq, Nat.reduceEqDiff]
  refine CallsH.mono (numberedR41 shops number _) ?_
  rintro v h6 ⟨x6, b2, m2, d2, rfl, k2, l2, J2⟩
  simp only [coreS, Value.cells, Value.oneCell', Nat.reduceAdd, Nat.reduceSub, Nat.reduceMul, Nat.reduceLeDiff, Int.reduceEq, Nat.reduceEqDiff]
  refine CallsH.mono (wish42 shops shop _) ?_
  rintro v h7 ⟨x7, w, e, rfl, hw⟩
  simp only [coreS, Value.cells, Value.oneCell', Nat.reduceAdd, Nat.reduceSub, Nat.reduceMul, Nat.reduceLeDiff, Int.reduceEq, Nat.reduceEqDiff]
  refine CallsH.mono (wishR43 shops shop _) ?_
  rintro v h8 ⟨rfl, w', e', rfl, hw'⟩
  obtain ⟨rfl, rfl⟩ := wishQ_one hw hw'
  simp only [decide_true, coreS, Value.cells, Value.oneCell', Nat.reduceAdd, Nat.reduceSub, Nat.reduceMul, Nat.reduceLeDiff, Int.reduceEq, Nat.reduceEqDiff]
  refine CallsH.mono (ints25 _ _ _ _ _ _ _ _ _ (J1.ext (x6.trans x7)) (J2.ext x7) (by omega)) ?_
  rintro v h9 ⟨rfl, rfl⟩
  simp only [decide_true, coreS, Value.cells, Value.oneCell', Nat.reduceAdd, Nat.reduceSub, Nat.reduceMul, Nat.reduceLeDiff, Int.reduceEq, Nat.reduceEqDiff]
  refine CallsH.mono (works18 _) ?_
  rintro v h10 ⟨rfl, x10⟩
  simp only [coreS, Value.cells, Value.oneCell', Nat.reduceAdd, Nat.reduceSub, Nat.reduceMul, Nat.reduceLeDiff, Int.reduceEq, Nat.reduceEqDiff]
  exact (((x3.trans x5).trans x6).trans x7).trans x10
/-- Which of two lists comes first. -/
def befB : List Nat → List Nat → Bool
  | x :: xs, y :: ys => if x ≠ y then decide (x < y) else befB xs ys
  | _, _ => false
theorem befB_cons {x y : Nat} {xs ys : List Nat} : befB (x :: xs) (y :: ys) = if x ≠ y then decide (x < y) else befB xs ys := rfl
theorem befB_skip : ∀ (i : Nat) (xs ys : List Nat), (∀ j < i, xs.getD j 0 = ys.getD j 0) → i ≤ xs.length → i ≤ ys.length → befB (xs.drop i) (ys.drop i) = befB xs ys
  | 0, xs, ys, _, _, _ => rfl
  | i + 1, [], ys, _, h, _ => by simp at h
  | i + 1, xs, [], _, _, h => by simp at h
  | i + 1, x :: xs, y :: ys, h, h1, h2 => by
    have h0 := h 0 (by omega)
    simp only [List.getD_cons_zero] at h0
    subst h0
    simp only [List.drop_succ_cons, befB]
    rw [if_neg (by simp)]
    exact befB_skip i xs ys (fun j hj => by have := h (j + 1) (by omega); simpa using this) (by simpa using h1) (by simpa using h2)
theorem before49 (a b : Option Addr) (n c d : Nat) (xs ys : List Nat) (h : Eng.Heap) (hx : IntsV h a n (zs xs)) (hy : IntsV h b n (zs ys)) (hl : n ≤ 1000000) :
    CallsH Try.prog 49 #[.slice a n c, .slice b n d] h (fun v h' => v = .bool (befB xs ys) ∧ h' = h) := by
  have hn := hx.len
  have hm := hy.len
  rw [zs_length] at hn hm
  refine CallsH_of_exec Try.func49 rfl bod49 ?_
  simp only [Try.ntmps49, Try.results49, coreS, stK_some, splice, Value.cells, Value.oneCell', Nat.reduceAdd, Nat.reduceSub, Nat.reduceMul, Nat.reduceLeDiff, Int.reduceEq, Nat.reduceEqDiff, agg3, by3, inf3, sz3, Try.underlying22]
  refine WP_loopI [4, 5, 6, 7, 8, 9, 10, 11, 12, 13, 14, 15, 16, 17, 18, 19, 20, 21, 22, 23, 24, 25, 26, 27, 28, 29, 30, 31, 32, 33, 34, 35] (fun g h' => h' = h ∧ ∃ i : Nat, i ≤ n ∧ g 5 = .int .i64 i ∧ ∀ j < i, xs.getD j 0 = ys.getD j 0) (fun g _ => match g 5 with | .int _ q => n - q.toNat | _ => 0) ⟨rfl, 0, by omega, rfl, fun j hj => by omega⟩ ?_
  rintro g h' ⟨rfl, i, hi, hg, hs⟩
  have hsk := befB_skip i xs ys hs (by omega) (by omega)
  rcases Nat.lt_or_ge i n with hlt | hge
  · have h1 : i < (zs xs).length := by rw [zs_length]; omega
    have h2 : i < (zs ys).length := by rw [zs_length]; omega
    have f1 : (i : Int) < (n : Int) := by omega
    simp only [hg, f1, decide_true, coreS, Value.cells, Value.oneCell', Nat.reduceAdd, Nat.reduceSub, Nat.reduceMul, Nat.reduceLeDiff, Int.reduceEq, Nat.reduceEqDiff, agg3, by3, inf3, sz3, Try.underlying22]
    refine WP_draw (by kernel_rfl) sta_eq [(0, 0), (1, 0), (2, 0), (3, 0), (4, 0), (5, 0), (6, 0), (7, 0), (8, 0)] (by kernel_rfl) rfl (by kernel_rfl) ?_
    simp only [hx.cell h1, hy.cell h2, zs_get, hvK_eq, coreS, Value.cells, Value.oneCell', Nat.reduceAdd, Nat.reduceSub, Nat.reduceMul, Nat.reduceLeDiff, Int.reduceEq, Nat.reduceEqDiff, drawS, agg3, by3, inf3, sz3, Try.underlying22]
    repeat (refine And.intro (by first | omega | (rw [inK_i64]; omega) | rfl | assumption | (exact hx.isSome (by omega)) | (exact hy.isSome (by omega))) ?_)
    rw [drop_next (cs := xs) (by omega), drop_next (cs := ys) (by omega), befB_cons] at hsk
    refine ⟨fun he => ⟨by rw [inK_i64]; omega, roundK_mk (by kernel_rfl) ⟨rfl, i + 1, by omega, rfl, fun j hj => ?_⟩ ?_⟩, fun he => ?_⟩
    · rcases Nat.lt_or_ge j i with h3 | h3
      · exact hs j h3
      · have : j = i := by omega
        subst this; omega
    · show n - ((i : Int) + 1).toNat < n - (i : Int).toNat
      omega
    · rw [if_pos (by omega)] at hsk
      refine WP_draw (by kernel_rfl) sta_eq [(0, 0), (1, 0), (2, 0), (3, 0), (4, 0), (5, 0), (6, 0), (7, 0), (8, 0), (9, 0)] (by kernel_rfl) rfl (by kernel_rfl) ?_
      simp only [hx.cell h1, hy.cell h2, zs_get, hvK_eq, coreS, Value.cells, Value.oneCell', Nat.reduceAdd, Nat.reduceSub, Nat.reduceMul, Nat.reduceLeDiff, Int.reduceEq, Nat.reduceEqDiff, drawS, agg3, by3, inf3, sz3, Try.underlying22]
      repeat (refine And.intro (by first | omega | (rw [inK_i64]; omega) | rfl | assumption | (exact hx.isSome (by omega)) | (exact hy.isSome (by omega))) ?_)
      rw [← hsk]
      congr 1
      rw [decide_eq_decide]
      omega
  · have hin : i = n := by omega
    have f1 : ¬ ((i : Int) < (n : Int)) := by omega
    simp only [hg, f1, decide_false, coreS, Value.cells, Value.oneCell', Nat.reduceAdd, Nat.reduceSub, Nat.reduceMul, Nat.reduceLeDiff, Int.reduceEq, Nat.reduceEqDiff, agg3, by3, inf3, sz3, Try.underlying22]
    rw [← hsk, List.drop_eq_nil_iff.2 (by omega)]
    rfl
theorem ofDig_before : ∀ (ds es l : List Nat), l.Pairwise (· < ·) → fits l.length ds → fits l.length es → ds.length = es.length → (befB (ofDig l ds) (ofDig l es) = true ↔ numD l.length ds < numD l.length es)
  | [], [], l, _, _, _, _ => by simp [ofDig, befB, numD]
  | d :: ds, e :: es, l, hp, hd, he, hl => by
    have r1 := numD_lt ds (l.length - 1) hd.2
    have r2 := numD_lt es (l.length - 1) he.2
    have hF := facF_pos (l.length - 1)
    have e1 : numD l.length (d :: ds) = d * facF (l.length - 1) + numD (l.length - 1) ds := rfl
    have e2 : numD l.length (e :: es) = e * facF (l.length - 1) + numD (l.length - 1) es := rfl
    rw [ofDig, ofDig, befB_cons, e1, e2]
    have gd : ∀ c, (hc : c < l.length) → l.getD c 0 = l[c] := fun c hc => by rw [List.getD, List.getElem?_eq_getElem hc]; rfl
    rcases Nat.lt_trichotomy d e with h | h | h
    · have hlt : l.getD d 0 < l.getD e 0 := by
        rw [gd d hd.1, gd e he.1]
        exact (List.pairwise_iff_getElem.1 hp) d e hd.1 he.1 h
      rw [if_pos (by omega)]
      have : (d + 1) * facF (l.length - 1) ≤ e * facF (l.length - 1) := Nat.mul_le_mul_right _ h
      rw [Nat.add_mul, Nat.one_mul] at this
      rw [decide_eq_true_eq]
      omega
    · subst h
      rw [if_neg (by simp)]
      have hel := erase_length hd.1
      have ih := ofDig_before ds es (l.eraseIdx d) (hp.sublist (List.eraseIdx_sublist _ _)) (by rw [hel]; exact hd.2) (by rw [hel]; exact he.2) (by simpa using hl)
      rw [ih, hel]
      omega
    · have hlt : l.getD e 0 < l.getD d 0 := by
        rw [gd d hd.1, gd e he.1]
        exact (List.pairwise_iff_getElem.1 hp) e d he.1 hd.1 h
      rw [if_pos (by omega)]
      have : (e + 1) * facF (l.length - 1) ≤ d * facF (l.length - 1) := Nat.mul_le_mul_right _ h
      rw [Nat.add_mul, Nat.one_mul] at this
      rw [decide_eq_true_eq]
      omega
theorem ordN_before {n a b : Nat} (ha : a < facF n) (hb : b < facF n) : befB (ordN n a) (ordN n b) = decide (a < b) := by
  have h := ofDig_before (digN n a) (digN n b) (List.range n) List.pairwise_lt_range (by rw [List.length_range]; exact digN_fits n a) (by rw [List.length_range]; exact digN_fits n b) (by rw [digN_length, digN_length])
  rw [List.length_range, numD_digN, numD_digN, Nat.mod_eq_of_lt ha, Nat.mod_eq_of_lt hb] at h
  rw [Bool.eq_iff_iff, decide_eq_true_eq]
  exact h
theorem ordN_inj {n a b : Nat} (ha : a < facF n) (hb : b < facF n) : (zs (ordN n a) = zs (ordN n b)) ↔ a = b :=
  ⟨fun h => by rw [← numN_ordN n a ha, ← numN_ordN n b hb, zs_inj h], fun h => by rw [h]⟩
theorem ordN_last (n : Nat) (h1 : 1 ≤ n) (h2 : n ≤ 12) : ordN n (facF n - 1) = (List.range n).reverse := by
  have : ∀ n < 13, 1 ≤ n → ordN n (facF n - 1) = (List.range n).reverse := by decide +kernel
  exact this n (by omega) h1
theorem nbr_ok {n a : Nat} (h1 : 1 ≤ n) (h2 : n ≤ 12) (ha : a < facF n) : nbrE n a = 0 ∧ nbrZ n a = zs (ordN n a) := by
  have : nbrE n a = 0 := by rw [nbrE, if_pos (by omega), Int.toNat_natCast, if_neg (by omega)]
  exact ⟨this, by rw [nbrZ, if_pos this, Int.toNat_natCast, Int.toNat_natCast]⟩
theorem numZ_ord {n a : Nat} (h1 : 1 ≤ n) (h2 : n ≤ 12) (ha : a < facF n) : numZ n (zs (ordN n a)) = a ∧ begE n (zs (ordN n a)) = 0 := by
  have hb := begE_perm h1 h2 (ordN_perm n a)
  exact ⟨by rw [numZ, if_pos hb, natL_zs, numN_ordN n a ha], hb⟩
theorem turnNumbered11 (a b c : Int) (h : Eng.Heap) (ha : 0 ≤ a ∧ a ≤ 255) (hb : 0 ≤ b ∧ b ≤ 4294967295) (hc : 0 ≤ c ∧ c ≤ 4294967295) :
    CallsH Try.prog 11 #[.int .u8 a, .int .u32 b, .int .u32 c] h (fun v h' => v = .bool true ∧ Ext h h') := by
  refine CallsH_of_exec Try.func11 rfl bod11 ?_
  simp only [Try.ntmps11, Try.results11, coreS, stK_some, splice, Value.cells, Value.oneCell', Nat.reduceAdd, Nat.reduceSub, Nat.reduceMul, Nat.reduceLeDiff, Int.reduceEq, Nat.reduceEqDiff, agg3, by3, inf3, sz3, Try.underlying2, Try.underlying22, Try.underlying47]
  refine CallsH.mono (shops44 a _ ha.1 ha.2) ?_
  rintro v h1 ⟨rfl, rfl⟩
  obtain ⟨n, hn⟩ : ∃ n : Nat, 1 + a % 12 = n := ⟨(1 + a % 12).toNat, by omega⟩
  rw [hn]
  have hn1 : 1 ≤ n ∧ n ≤ 12 := by omega
  simp only [coreS, Value.cells, Value.oneCell', Nat.reduceAdd, Nat.reduceSub, Nat.reduceMul, Nat.reduceLeDiff, Int.reduceEq, Nat.reduceEqDiff, agg3, by3, inf3, sz3, Try.underlying2, Try.underlying22, Try.underlying47]
  refine CallsH.mono (many48 n _ hn1.2) ?_
  rintro v h2 ⟨rfl, rfl⟩
  have hf := facF_le n hn1.2
  have cut : ∀ m : Int, 0 ≤ m → ∃ k : Nat, m.tmod (facF n : Int) = k ∧ k < facF n := fun m hm => by
    have e0 := Int.emod_nonneg m (show (facF n : Int) ≠ 0 by omega)
    have e1 := Int.emod_lt_of_pos m (show (0 : Int) < facF n by omega)
    exact ⟨(m % (facF n : Int)).toNat, by rw [Int.tmod_eq_emod_of_nonneg hm]; omega, by omega⟩
  obtain ⟨p, hp, hpf⟩ := cut b hb.1
  obtain ⟨q, hq, hqf⟩ := cut c hc.1
  simp only [coreS, Value.cells, Value.oneCell', Nat.reduceAdd, Nat.reduceSub, Nat.reduceMul, Nat.reduceLeDiff, Int.reduceEq, Nat.reduceEqDiff, agg3, by3, inf3, sz3, Try.underlying2, Try.underlying22, Try.underlying47]
  refine WP_draw (by kernel_rfl) sta_eq [(0, 0), (1, 0), (2, 0), (3, 0), (4, 0), (5, 0), (6, 0), (7, 0), (8, 0), (9, 0)] (by kernel_rfl) rfl (by kernel_rfl) ?_
  simp only [hp, hq, hvK_eq, coreS, Value.cells, Value.oneCell', Nat.reduceAdd, Nat.reduceSub, Nat.reduceMul, Nat.reduceLeDiff, Int.reduceEq, Nat.reduceEqDiff, drawS, agg3, by3, inf3, sz3, Try.underlying2, Try.underlying22, Try.underlying47]
  repeat (refine And.intro (by first | omega | (rw [inK_i64]; omega) | rfl | assumption) ?_)
  refine CallsH.mono (numbered40 n p _ (by omega) (by omega)) ?_
  rintro v h3 ⟨x3, a3, k3, c3, rfl, _, l3, I3⟩
  rw [(nbr_ok hn1.1 hn1.2 hpf).2] at I3
  have e3 := I3.len
  rw [zs_length, ordN_length] at e3
  subst e3
  simp only [coreS, Value.cells, Value.oneCell', Nat.reduceAdd, Nat.reduceSub, Nat.reduceMul, Nat.reduceLeDiff, Int.reduceEq, Nat.reduceEqDiff, agg3, by3, inf3, sz3, Try.underlying2, Try.underlying22, Try.underlying47]
  refine CallsH.mono (numbered40 k3 q _ (by omega) (by omega)) ?_
  rintro v h4 ⟨x4, a4, k4, c4, rfl, _, l4, I4⟩
  rw [(nbr_ok hn1.1 hn1.2 hqf).2] at I4
  have e4 := I4.len
  rw [zs_length, ordN_length] at e4
  subst e4
  have em : (facF k4 : Int) - 1 = ((facF k4 - 1 : Nat) : Int) := by omega
  simp only [em, coreS, Value.cells, Value.oneCell', Nat.reduceAdd, Nat.reduceSub, Nat.reduceMul, Nat.reduceLeDiff, Int.reduceEq, Nat.reduceEqDiff, agg3, by3, inf3, sz3, Try.underlying2, Try.underlying22, Try.underlying47]
  repeat (refine And.intro (by first | omega | (rw [inK_i64]; omega) | rfl | assumption) ?_)
  refine CallsH.mono (numbered40 k4 (facF k4 - 1 : Nat) _ (by omega) (by omega)) ?_
  rintro v h5 ⟨x5, a5, k5, c5, rfl, _, l5, I5⟩
  rw [(nbr_ok hn1.1 hn1.2 (show facF k4 - 1 < facF k4 by omega)).2, ordN_last k4 hn1.1 hn1.2] at I5
  have e5 := I5.len
  rw [zs_length, List.length_reverse, List.length_range] at e5
  subst e5
  simp only [coreS, Value.cells, Value.oneCell', Nat.reduceAdd, Nat.reduceSub, Nat.reduceMul, Nat.reduceLeDiff, Int.reduceEq, Nat.reduceEqDiff, agg3, by3, inf3, sz3, Try.underlying2, Try.underlying22, Try.underlying47]
  refine CallsH.mono (numbered40 k5 (facF k5) _ (by omega) (by omega)) ?_
  rintro v h6 ⟨x6, a6, k6, c6, rfl, _, l6, I6⟩
  have e2 : nbrE k5 (facF k5) = 2 := by rw [nbrE, if_pos (by omega), Int.toNat_natCast, if_pos (by omega)]
  simp only [(nbr_ok hn1.1 hn1.2 hpf).1, (nbr_ok hn1.1 hn1.2 hqf).1, (nbr_ok hn1.1 hn1.2 (show facF k5 - 1 < facF k5 by omega)).1, e2, coreS, Value.cells, Value.oneCell', Nat.reduceAdd, Nat.reduceSub, Nat.reduceMul, Nat.reduceLeDiff, Int.reduceEq, Nat.reduceEqDiff, agg3, by3, inf3, sz3, Try.underlying2, Try.underlying22, Try.underlying47]
  have J3 := I3.ext ((x4.trans x5).trans x6)
  have J4 := I4.ext (x5.trans x6)
  have J5 := I5.ext x6
  refine CallsH.mono (isOrder46 _ k5 _ _ _ J3 (by omega) l3 (isOrd_perm (ordN_perm k5 p))) ?_
  rintro v h7 ⟨rfl, rfl⟩
  simp only [coreS, Value.cells, Value.oneCell', Nat.reduceAdd, Nat.reduceSub, Nat.reduceMul, Nat.reduceLeDiff, Int.reduceEq, Nat.reduceEqDiff, agg3, by3, inf3, sz3, Try.underlying2, Try.underlying22, Try.underlying47]
  refine CallsH.mono (isOrder46 _ k5 _ _ _ J4 (by omega) l4 (isOrd_perm (ordN_perm k5 q))) ?_
  rintro v h8 ⟨rfl, rfl⟩
  simp only [coreS, Value.cells, Value.oneCell', Nat.reduceAdd, Nat.reduceSub, Nat.reduceMul, Nat.reduceLeDiff, Int.reduceEq, Nat.reduceEqDiff, agg3, by3, inf3, sz3, Try.underlying2, Try.underlying22, Try.underlying47]
  have pz : ((List.range k5).reverse).Perm (List.range k5) := List.reverse_perm _
  refine CallsH.mono (isOrder46 _ k5 _ _ _ J5 (by omega) l5 (isOrd_perm pz)) ?_
  rintro v h9 ⟨rfl, rfl⟩
  simp only [coreS, Value.cells, Value.oneCell', Nat.reduceAdd, Nat.reduceSub, Nat.reduceMul, Nat.reduceLeDiff, Int.reduceEq, Nat.reduceEqDiff, agg3, by3, inf3, sz3, Try.underlying2, Try.underlying22, Try.underlying47]
  refine CallsH.mono (number38 a3 k5 c3 _ _ J3 (by omega)) ?_
  rintro v h10 ⟨x10, rfl⟩
  simp only [(numZ_ord hn1.1 hn1.2 hpf).1, (numZ_ord hn1.1 hn1.2 hpf).2, coreS, Value.cells, Value.oneCell', Nat.reduceAdd, Nat.reduceSub, Nat.reduceMul, Nat.reduceLeDiff, Int.reduceEq, Nat.reduceEqDiff, agg3, by3, inf3, sz3, Try.underlying2, Try.underlying22, Try.underlying47]
  refine CallsH.mono (number38 a4 k5 c4 _ _ (J4.ext x10) (by omega)) ?_
  rintro v h11 ⟨x11, rfl⟩
  have x911 := x10.trans x11
  simp only [(numZ_ord hn1.1 hn1.2 hqf).1, (numZ_ord hn1.1 hn1.2 hqf).2, (numZ_ord hn1.1 hn1.2 hpf).1, (numZ_ord hn1.1 hn1.2 hpf).2, decide_true, Bool.not_true, coreS, Value.cells, Value.oneCell', Nat.reduceAdd, Nat.reduceSub, Nat.reduceMul, Nat.reduceLeDiff, Int.reduceEq, Nat.reduceEqDiff, agg3, by3, inf3, sz3, Try.underlying2, Try.underlying22, Try.underlying47]
  have K3 := J3.ext x911
  have K4 := J4.ext x911
  have K5 := J5.ext x911
  refine WP_loopI [6, 21, 117, 118, 119, 120, 121, 122, 123, 124, 125, 126, 127, 128, 129, 130] (fun g h' => h' = h11 ∧ ∃ i : Nat, i ≤ k5 ∧ g 21 = .int .i64 i) (fun g _ => match g 21 with | .int _ m => k5 - m.toNat | _ => 0) ⟨rfl, 0, by omega, rfl⟩ ?_
  rintro g h' ⟨rfl, i, hi, hg⟩
  simp only [hg, coreS, Value.cells, Value.oneCell', Nat.reduceAdd, Nat.reduceSub, Nat.reduceMul, Nat.reduceLeDiff, Int.reduceEq, Nat.reduceEqDiff, agg3, by3, inf3, sz3, Try.underlying2, Try.underlying22, Try.underlying47]
  refine ⟨fun hlt => ?_, fun hge => ?_⟩
  · have hil : i < (zs (List.range k5).reverse).length := by rw [zs_length, List.length_reverse, List.length_range]; omega
    have hz : (zs (List.range k5).reverse).getD i 0 = (k5 : Int) - 1 - i := by
      rw [zs_get, List.getD, List.getElem?_reverse (by simp; omega), List.length_range, List.getElem?_range (by omega)]
      simp
      omega
    simp only [K5.cell hil, hz, decide_true, Bool.not_true, coreS, Value.cells, Value.oneCell', Nat.reduceAdd, Nat.reduceSub, Nat.reduceMul, Nat.reduceLeDiff, Int.reduceEq, Nat.reduceEqDiff, agg3, by3, inf3, sz3, Try.underlying2, Try.underlying22, Try.underlying47]
    repeat (refine And.intro (by first | omega | (rw [inK_i64]; omega) | rfl | assumption | (exact K5.isSome (by omega))) ?_)
    refine roundK_mk (by kernel_rfl) ⟨rfl, i + 1, by omega, rfl⟩ ?_
    show k5 - ((i : Int) + 1).toNat < k5 - (i : Int).toNat
    omega
  · refine CallsH.mono (before49 a3 a4 k5 c3 c4 _ _ _ K3 K4 (by omega)) ?_
    rintro v h12 ⟨rfl, rfl⟩
    rw [ordN_before hpf hqf]
    simp only [coreS, Value.cells, Value.oneCell', Nat.reduceAdd, Nat.reduceSub, Nat.reduceMul, Nat.reduceLeDiff, Int.reduceEq, Nat.reduceEqDiff, agg3, by3, inf3, sz3, Try.underlying2, Try.underlying22, Try.underlying47]
    have fd : decide ((p : Int) < (q : Int)) = decide (p < q) := by rw [decide_eq_decide]; omega
    rw [fd]
    refine eqBoolW Try.underlying4 rfl rfl ?_
    simp only [BEq.rfl, coreS, Value.cells, Value.oneCell', Nat.reduceAdd, Nat.reduceSub, Nat.reduceMul, Nat.reduceLeDiff, Int.reduceEq, Nat.reduceEqDiff, agg3, by3, inf3, sz3, Try.underlying2, Try.underlying22, Try.underlying47]
    refine CallsH.mono (ints25 a3 a4 _ _ _ _ _ _ _ K3 K4 (by omega)) ?_
    rintro v h13 ⟨rfl, rfl⟩
    have fe : decide ((p : Int) = (q : Int)) = decide (zs (ordN k5 p) = zs (ordN k5 q)) := by rw [decide_eq_decide, ordN_inj hpf hqf]; omega
    simp only [coreS, Value.cells, Value.oneCell', Nat.reduceAdd, Nat.reduceSub, Nat.reduceMul, Nat.reduceLeDiff, Int.reduceEq, Nat.reduceEqDiff, agg3, by3, inf3, sz3, Try.underlying2, Try.underlying22, Try.underlying47]
    rw [fe]
    refine eqBoolW Try.underlying4 rfl rfl ?_
    simp only [BEq.rfl, coreS, Value.cells, Value.oneCell', Nat.reduceAdd, Nat.reduceSub, Nat.reduceMul, Nat.reduceLeDiff, Int.reduceEq, Nat.reduceEqDiff, agg3, by3, inf3, sz3, Try.underlying2, Try.underlying22, Try.underlying47]
    refine CallsH.mono (works18 _) ?_
    rintro v h14 ⟨rfl, x14⟩
    simp only [coreS, Value.cells, Value.oneCell', Nat.reduceAdd, Nat.reduceSub, Nat.reduceMul, Nat.reduceLeDiff, Int.reduceEq, Nat.reduceEqDiff, agg3, by3, inf3, sz3, Try.underlying2, Try.underlying22, Try.underlying47]
    exact ((((x3.trans x4).trans x5).trans x6).trans x911).trans x14
end Go.Proofs.Ytoediaepoddonaa
