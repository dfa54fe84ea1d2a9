/- Walks: Ints, the reference's When; TurnRounds. -/
import Derived.Test.YtoediaepoddonaaT8
import Derived.Test.YtoediaepoddonaaT13
namespace Go.Proofs.Ytoediaepoddonaa
open Go Go.Proofs Go.Eng Go.Run Tab
set_option maxRecDepth 100000
set_option linter.unusedSimpArgs false
set_option linter.unusedVariables false
set_option maxHeartbeats 1000000
theorem ints25 (a b : Option Addr) (n m c d : Nat) (xs ys : List Int) (h : Eng.Heap) (hx : IntsV h a n xs) (hy : IntsV h b m ys) (hl : n ≤ 1000000) :
    CallsH Try.prog 25 #[.slice a n c, .slice b m d] h (fun v h' => v = .bool (decide (xs = ys)) ∧ h' = h) := by
  have hn := hx.len
  have hm := hy.len
  refine CallsH_of_exec Try.func25 rfl bod25 ?_
  simp only [Try.ntmps25, Try.results25, coreS, stK_some, splice, Value.cells, Value.oneCell', Nat.reduceAdd, Nat.reduceSub, Nat.reduceMul, Nat.reduceLeDiff, Int.reduceEq, Nat.reduceEqDiff, agg3, by3, inf3, sz3, Try.underlying22]
  refine ⟨fun heq => ?_, fun hne => ?_⟩
  · have hnm : n = m := by omega
    subst hnm
    refine WP_loopI [4, 5, 11, 12, 13, 14, 15, 16, 17, 18, 19, 20, 21, 22, 23, 24, 25] (fun g h' => h' = h ∧ ∃ i : Nat, i ≤ n ∧ g 5 = .int .i64 i ∧ ∀ j < i, xs.getD j 0 = ys.getD j 0) (fun g _ => match g 5 with | .int _ q => n - q.toNat | _ => 0) ⟨rfl, 0, by omega, rfl, fun j hj => by omega⟩ ?_
    rintro g h' ⟨rfl, i, hi, hg, hs⟩
    simp only [hg, coreS, Value.cells, Value.oneCell', Nat.reduceAdd, Nat.reduceSub, Nat.reduceMul, Nat.reduceLeDiff, Int.reduceEq, Nat.reduceEqDiff, agg3, by3, inf3, sz3, Try.underlying22]
    refine ⟨fun hlt => ?_, fun hge => ?_⟩
    · have h1 : i < xs.length := by omega
      have h2 : i < ys.length := by omega
      refine WP_draw (by kernel_rfl) sta_eq [(0, 0), (1, 0), (2, 0), (3, 0), (4, 0), (5, 0), (6, 0), (7, 0), (8, 0)] (by kernel_rfl) rfl (by kernel_rfl) ?_
      simp only [hx.cell h1, hy.cell h2, hvK_eq, coreS, Value.cells, Value.oneCell', Nat.reduceAdd, Nat.reduceSub, Nat.reduceMul, Nat.reduceLeDiff, Int.reduceEq, Nat.reduceEqDiff, drawS, agg3, by3, inf3, sz3, Try.underlying22]
      repeat (refine And.intro (by first | omega | (rw [inK_i64]; omega) | rfl | assumption | (exact hx.isSome (by omega)) | (exact hy.isSome (by omega))) ?_)
      refine ⟨fun he => ⟨by rw [inK_i64]; omega, roundK_mk (by kernel_rfl) ⟨rfl, i + 1, by omega, rfl, fun j hj => ?_⟩ ?_⟩, fun he => ?_⟩
      · rcases Nat.lt_or_ge j i with h3 | h3
        · exact hs j h3
        · have : j = i := by omega
          subst this; exact he
      · show n - ((i : Int) + 1).toNat < n - (i : Int).toNat
        omega
      · have : xs ≠ ys := fun h => he (by rw [h])
        simp [this]
    · have : xs = ys := by
        apply List.ext_getElem (by omega)
        intro j h1 h2
        have := hs j (by omega)
        simpa [List.getD, List.getElem?_eq_getElem h1, List.getElem?_eq_getElem h2] using this
      simp [this]
  · have : xs ≠ ys := fun h => hne (by rw [h] at hn; omega)
    simp [this]
/-- What When answers. -/
def whenP (shops step shop w e : Int) : Prop := (openE shops [step] ≠ 0 ∧ w = 0 ∧ e = openE shops [step]) ∨ (openE shops [step] = 0 ∧ ¬ (0 ≤ shop ∧ shop < shops) ∧ w = 0 ∧ e = 3) ∨
      (openE shops [step] = 0 ∧ (0 ≤ shop ∧ shop < shops) ∧ w = idx (fun y => decide (shop = y)) (zs (roundL shops.toNat step)) ∧ e = 0)
theorem whenP_one {shops step shop w e w' e' : Int} (h : whenP shops step shop w e) (h' : whenP shops step shop w' e') : w = w' ∧ e = e' := by
  rcases h with ⟨a, b, c⟩ | ⟨a, b, c, d⟩ | ⟨a, b, c, d⟩ <;> rcases h' with ⟨a', b', c'⟩ | ⟨a', b', c', d'⟩ | ⟨a', b', c', d'⟩ <;> first | (exfalso; contradiction) | exact ⟨by rw [b, b'], by rw [c, c']⟩ | exact ⟨by rw [c, c'], by rw [d, d']⟩
theorem whenR31 (shops step shop : Int) (h : Eng.Heap) : CallsH Try.prog 31 #[.int .i64 shops, .int .i64 step, .int .i64 shop] h (fun v h' => Ext h h' ∧ ∃ w e, v = .tuple #[.int .i64 w, .int .i64 e] ∧ whenP shops step shop w e) := by
  refine CallsH_of_exec Try.func31 rfl bod31 ?_
  simp only [Try.ntmps31, Try.results31, coreS, stK_some, splice, Value.cells, Value.oneCell', Nat.reduceAdd, Nat.reduceSub, Nat.reduceMul, Nat.reduceLeDiff, Int.reduceEq, Nat.reduceEqDiff, agg3, by3, inf3, sz3, Try.underlying22]
  refine CallsH.mono (roundR27 ..) ?_
  rintro v h1 ⟨x1, ⟨hne, rfl⟩ | ⟨h0, u, rfl, a1, c1, rfl, O1⟩⟩
  · simp only [hne, coreS, Value.cells, Value.oneCell', Nat.reduceAdd, Nat.reduceSub, Nat.reduceMul, Nat.reduceLeDiff, Int.reduceEq, Nat.reduceEqDiff, agg3, by3, inf3, sz3, Try.underlying22]
    exact ⟨x1, _, _, rfl, .inl ⟨hne, rfl, rfl⟩⟩
  · obtain ⟨hsh, hst⟩ := openE_one h0
    simp only [h0, coreS, Value.cells, Value.oneCell', Nat.reduceAdd, Nat.reduceSub, Nat.reduceMul, Nat.reduceLeDiff, Int.reduceEq, Nat.reduceEqDiff, agg3, by3, inf3, sz3, Try.underlying22]
    refine ⟨fun hlt => ⟨x1, _, _, rfl, .inr (.inl ⟨h0, by omega, rfl, rfl⟩)⟩, fun hge => ⟨fun hlt => ⟨x1, _, _, rfl, .inr (.inl ⟨h0, by omega, rfl, rfl⟩)⟩, fun hge2 => ?_⟩⟩
    obtain ⟨n, rfl⟩ : ∃ n : Nat, shops = n := ⟨shops.toNat, by omega⟩
    obtain ⟨k, rfl⟩ : ∃ k : Nat, shop = k := ⟨shop.toNat, by omega⟩
    have hkn : k < n := by omega
    rw [Int.toNat_natCast, zs_length, roundL_length] at O1 ⊢
    have hp := round_perm n step
    obtain ⟨q, hq, hqk⟩ := ord_has hp hkn
    have ho := isOrd_perm hp
    have hi := idx_ord ho hq
    rw [hqk] at hi
    refine WP_loopI [10, 27, 28, 29, 30, 31, 32, 33, 34] (fun g h' => h' = h1 ∧ ∃ i : Nat, i ≤ q ∧ g 10 = .int .i64 i) (fun g _ => match g 10 with | .int _ z => n - z.toNat | _ => 0) ⟨rfl, 0, by omega, rfl⟩ ?_
    rintro g h' ⟨rfl, i, hiq, hg⟩
    have hil : i < (zs (roundL n step)).length := by rw [zs_length, roundL_length]; omega
    simp only [hg, O1.ints.cell hil, coreS, Value.cells, Value.oneCell', Nat.reduceAdd, Nat.reduceSub, Nat.reduceMul, Nat.reduceLeDiff, Int.reduceEq, Nat.reduceEqDiff, agg3, by3, inf3, sz3, Try.underlying22]
    repeat (refine And.intro (by first | omega | (rw [inK_i64]; omega) | rfl | assumption | (exact O1.ints.isSome (by omega))) ?_)
    refine ⟨fun he => ?_, fun hne => ?_⟩
    · have : i = q := by
        have h2 := idx_ord ho (show i < n by omega)
        rw [he, hi] at h2
        omega
      subst this
      exact ⟨x1, _, _, rfl, .inr (.inr ⟨h0, by omega, by rw [Int.toNat_natCast]; exact hi.symm, rfl⟩)⟩
    · have : i ≠ q := fun h => hne (by rw [h]; exact hqk)
      refine ⟨by rw [inK_i64]; omega, roundK_mk (by kernel_rfl) ⟨rfl, i + 1, by omega, rfl⟩ ?_⟩
      show n - ((i : Int) + 1).toNat < n - (i : Int).toNat
      omega
/-- The list by a step, none where there is an error. -/
def roundZ (shops step : Int) : List Int := if openE shops [step] = 0 then zs (roundL shops.toNat step) else []
def RoundP (shops step : Int) (h' : Eng.Heap) (v : Value) : Prop := ∃ a n c, v = .tuple #[.slice a n c, .int .i64 (openE shops [step])] ∧ n ≤ 1000 ∧ n ≤ c ∧ IntsV h' a n (roundZ shops step)
theorem roundZ_ok {shops step : Int} (h0 : openE shops [step] = 0) : roundZ shops step = zs (roundL shops.toNat step) := if_pos h0
theorem roundP26 (shops step : Int) (h : Eng.Heap) : CallsH Try.prog 26 #[.int .i64 shops, .int .i64 step] h (fun v h' => Ext h h' ∧ RoundP shops step h' v) := by
  refine CallsH.mono (round26 ..) ?_
  rintro v h1 ⟨x1, ⟨hne, rfl⟩ | ⟨h0, b, rfl, hb, hb2⟩⟩
  · refine ⟨x1, none, 0, 0, rfl, by omega, by omega, ?_⟩
    rw [roundZ, if_neg hne]
    exact IntsV.nil _
  · obtain ⟨hsh, hst⟩ := openE_one h0
    have := IntsV.block hb2
    rw [zs_length, roundL_length] at this
    exact ⟨x1, _, _, _, by rw [h0], by omega, Nat.le_refl _, by rw [roundZ_ok h0]; exact this⟩
theorem roundP27 (shops step : Int) (h : Eng.Heap) : CallsH Try.prog 27 #[.int .i64 shops, .int .i64 step] h (fun v h' => Ext h h' ∧ RoundP shops step h' v) := by
  refine CallsH.mono (roundR27 ..) ?_
  rintro v h1 ⟨x1, ⟨hne, rfl⟩ | ⟨h0, u, rfl, a1, c1, rfl, O1⟩⟩
  · refine ⟨x1, none, 0, 0, rfl, by omega, by omega, ?_⟩
    rw [roundZ, if_neg hne]
    exact IntsV.nil _
  · obtain ⟨hsh, hst⟩ := openE_one h0
    refine ⟨x1, _, _, _, by rw [h0], ?_, O1.cap, by rw [roundZ_ok h0]; exact O1.ints⟩
    rw [zs_length, roundL_length]
    omega
theorem whenP30 (shops step shop : Int) (h : Eng.Heap) : CallsH Try.prog 30 #[.int .i64 shops, .int .i64 step, .int .i64 shop] h (fun v h' => Ext h h' ∧ ∃ w e, v = .tuple #[.int .i64 w, .int .i64 e] ∧ whenP shops step shop w e) := when30 ..
theorem turnRounds4 (shops step shop : Int) (h : Eng.Heap) : CallsH Try.prog 4 #[.int .i64 shops, .int .i64 step, .int .i64 shop] h (fun v h' => v = .bool true ∧ Ext h h') := by
  refine CallsH_of_exec Try.func4 rfl bod4 ?_
  simp only [Try.ntmps4, Try.results4, coreS, stK_some, splice, Value.cells, Value.oneCell', Nat.reduceAdd, Nat.reduceSub, Nat.reduceMul, Nat.reduceLeDiff, Int.reduceEq, Nat.reduceEqDiff]
  refine CallsH.mono (roundP26 ..) ?_
  rintro v h1 ⟨x1, a1, n1, c1, rfl, hn1, hc1, I1⟩
  simp only [coreS, Value.cells, Value.oneCell', Nat.reduceAdd, Nat.reduceSub, Nat.reduceMul, Nat.reduceLeDiff, Int.reduceEq, Nat.reduceEqDiff]
  refine CallsH.mono (roundP27 ..) ?_
  rintro v h2 ⟨x2, a2, n2, c2, rfl, hn2, hc2, I2⟩
  simp only [coreS, Value.cells, Value.oneCell', Nat.reduceAdd, Nat.reduceSub, Nat.reduceMul, Nat.reduceLeDiff, Int.reduceEq, Nat.reduceEqDiff]
  refine CallsH.mono (last28 ..) ?_
  rintro v h3 ⟨rfl, x3⟩
  simp only [coreS, Value.cells, Value.oneCell', Nat.reduceAdd, Nat.reduceSub, Nat.reduceMul, Nat.reduceLeDiff, Int.reduceEq, Nat.reduceEqDiff]
  refine CallsH.mono (lastR29 ..) ?_
  rintro v h4 ⟨rfl, x4⟩
  simp only [coreS, Value.cells, Value.oneCell', Nat.reduceAdd, Nat.reduceSub, Nat.reduceMul, Nat.reduceLeDiff, Int.reduceEq, Nat.reduceEqDiff]
  refine CallsH.mono (whenP30 ..) ?_
  rintro v h5 ⟨x5, w, e, rfl, hw⟩
  simp only [coreS, Value.cells, Value.oneCell', Nat.reduceAdd, Nat.reduceSub, Nat.reduceMul, Nat.reduceLeDiff, Int.reduceEq, Nat.reduceEqDiff]
  refine CallsH.mono (whenR31 ..) ?_
  rintro v h6 ⟨x6, w', e', rfl, hw'⟩
  obtain ⟨rfl, rfl⟩ := whenP_one hw hw'
  have x26 := ((x3.trans x4).trans x5).trans x6
  simp only [coreS, Value.cells, Value.oneCell', Nat.reduceAdd, Nat.reduceSub, Nat.reduceMul, Nat.reduceLeDiff, Int.reduceEq, Nat.reduceEqDiff]
  refine CallsH.mono (ints25 _ _ _ _ _ _ _ _ h6 (I1.ext (x2.trans x26)) (I2.ext x26) (by omega)) ?_
  rintro v h7 ⟨rfl, rfl⟩
  simp only [decide_true, coreS, Value.cells, Value.oneCell', Nat.reduceAdd, Nat.reduceSub, Nat.reduceMul, Nat.reduceLeDiff, Int.reduceEq, Nat.reduceEqDiff]
  refine CallsH.mono (works18 _) ?_
  rintro v h8 ⟨rfl, x8⟩
  simp only [coreS, Value.cells, Value.oneCell', Nat.reduceAdd, Nat.reduceSub, Nat.reduceMul, Nat.reduceLeDiff, Int.reduceEq, Nat.reduceEqDiff]
  exact (x1.trans (x2.trans x26)).trans x8
end Go.Proofs.Ytoediaepoddonaa
