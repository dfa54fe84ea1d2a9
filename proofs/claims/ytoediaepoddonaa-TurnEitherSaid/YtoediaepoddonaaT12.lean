/- Walks: codes and orders of codes, of the program and of the reference; TurnOrders. -/
import Derived.Test.YtoediaepoddonaaT14
namespace Go.Proofs.Ytoediaepoddonaa
open Go Go.Proofs Go.Eng Go.Run Tab
set_option maxRecDepth 100000
set_option linter.unusedSimpArgs false
set_option linter.unusedVariables false
set_option maxHeartbeats 1000000
def natL (xs : List Int) : List Nat := xs.map Int.toNat
theorem natL_length (xs : List Int) : (natL xs).length = xs.length := by simp [natL]
theorem zs_natL {xs : List Int} (h : ∀ x ∈ xs, 0 ≤ x) : zs (natL xs) = xs := by
  simp only [zs, natL, List.map_map]
  conv => rhs; rw [← List.map_id xs]
  apply List.map_congr_left
  intro x hx
  have := h x hx
  simp
  omega
theorem natL_get (xs : List Int) (i : Nat) : (natL xs).getD i 0 = (xs.getD i 0).toNat := by
  simp only [natL, List.getD, List.getElem?_map]
  cases xs[i]? <;> rfl
theorem inB_one {lo hi x : Int} : inB lo hi [x] = true ↔ lo ≤ x ∧ x ≤ hi := by simp [inB]
theorem inB_one' {lo hi x : Int} : inB lo hi [x] = false ↔ ¬ (lo ≤ x ∧ x ≤ hi) := by
  rw [← inB_one]; simp
/-- A function's answer: a list, and an error. -/
def ListP (e : Int) (zl : List Int) (h' : Eng.Heap) (v : Value) : Prop := ∃ a n c, v = .tuple #[.slice a n c, .int .i64 e] ∧ n ≤ 1000 ∧ n ≤ c ∧ IntsV h' a n zl
/-- The error of a code. -/
def chkB (shops : Int) (xs : List Int) : Bool := (List.range xs.length).all fun i => decide (0 ≤ xs.getD i 0) && decide (xs.getD i 0 ≤ shops - 1 - i)
def chkE (shops : Int) (xs : List Int) : Int := if 1 ≤ shops ∧ shops ≤ 12 then if (xs.length : Int) ≠ shops then 15 else if chkB shops xs then 0 else 3 else 6
theorem chkB_iff {shops : Int} {xs : List Int} : chkB shops xs = true ↔ ∀ i < xs.length, 0 ≤ xs.getD i 0 ∧ xs.getD i 0 ≤ shops - 1 - i := by
  simp [chkB]
theorem getD_mem {xs : List Int} {i : Nat} (h : i < xs.length) : xs.getD i 0 ∈ xs := by rw [List.getD, List.getElem?_eq_getElem h]; exact List.getElem_mem h
theorem mem_getD {xs : List Int} {x : Int} (h : x ∈ xs) : ∃ i < xs.length, xs.getD i 0 = x := by
  obtain ⟨i, hi, he⟩ := List.getElem_of_mem h
  exact ⟨i, hi, by rw [List.getD, List.getElem?_eq_getElem hi]; exact he⟩
theorem chkE_ok {shops : Int} {xs : List Int} (h : chkE shops xs = 0) : ∃ n : Nat, shops = n ∧ 1 ≤ n ∧ n ≤ 12 ∧ xs.length = n ∧ zs (natL xs) = xs ∧ fits n (natL xs) := by
  unfold chkE at h
  split at h
  · rename_i hs
    split at h
    · omega
    · rename_i hl
      split at h
      · rename_i hb
        rw [chkB_iff] at hb
        refine ⟨shops.toNat, by omega, by omega, by omega, by omega, zs_natL fun x hx => ?_, fits_of _ _ fun i hi => ?_⟩
        · obtain ⟨i, hi, rfl⟩ := mem_getD hx
          exact (hb i hi).1
        · rw [natL_length] at hi
          have := hb i hi
          rw [natL_get]
          omega
      · omega
  · omega
theorem checkCode23 (shops : Int) (a : Option Addr) (n c : Nat) (xs : List Int) (h : Eng.Heap) (hv : IntsV h a n xs) (hl : n ≤ 1000000) :
    CallsH Try.prog 23 #[.int .i64 shops, .slice a n c] h (fun v h' => v = .int .i64 (chkE shops xs) ∧ Ext h h') := by
  have hn := hv.len
  refine CallsH_of_exec Try.func23 rfl bod23 ?_
  simp only [Try.ntmps23, Try.results23, coreS, stK_some, splice, Value.cells, Value.oneCell', Nat.reduceAdd, Nat.reduceSub, Nat.reduceMul, Nat.reduceLeDiff, Int.reduceEq, Nat.reduceEqDiff, agg3, by3, inf3, sz3, zero3, Try.underlying22]
  refine CallsH.mono (open59 shops none 0 0 [] h (IntsV.nil h) (by omega)) ?_
  rintro v h1 ⟨x1, ⟨h0, b, rfl, hb, hb2⟩ | ⟨hne, rfl⟩⟩
  · have hsh : 1 ≤ shops ∧ shops ≤ 12 := by
      have := openE_ne (n := shops)
      omega
    simp only [h0, coreS, Value.cells, Value.oneCell', Nat.reduceAdd, Nat.reduceSub, Nat.reduceMul, Nat.reduceLeDiff, Int.reduceEq, Nat.reduceEqDiff, agg3, by3, inf3, sz3, zero3, Try.underlying22]
    refine ⟨fun heq => ?_, fun hne => ?_⟩
    · have hxl : ¬ ((xs.length : Int) ≠ shops) := by omega
      refine WP_loopI [4, 7, 8, 25, 26, 27, 28, 29, 30, 31, 32, 33, 34, 35, 36, 37, 38] (fun g h' => ∃ i : Nat, i ≤ n ∧ g 25 = .int .i64 i ∧ Ext h h' ∧ ∀ j < i, 0 ≤ xs.getD j 0 ∧ xs.getD j 0 ≤ shops - 1 - j) (fun g _ => match g 25 with | .int _ m => n - m.toNat | _ => 0) ⟨0, by omega, rfl, x1, fun j hj => by omega⟩ ?_
      rintro g h' ⟨i, hi, hg, x, hno⟩
      simp only [hg, coreS, Value.cells, Value.oneCell', Nat.reduceAdd, Nat.reduceSub, Nat.reduceMul, Nat.reduceLeDiff, Int.reduceEq, Nat.reduceEqDiff, agg3, by3, inf3, sz3, zero3, Try.underlying22]
      refine ⟨fun hlt => ?_, fun hge => ?_⟩
      · have hil : i < xs.length := by omega
        simp only [(hv.ext x).cell hil, coreS, Value.cells, Value.oneCell', Nat.reduceAdd, Nat.reduceSub, Nat.reduceMul, Nat.reduceLeDiff, Int.reduceEq, Nat.reduceEqDiff, agg3, by3, inf3, sz3, zero3, Try.underlying22]
        repeat (refine And.intro (by first | omega | (rw [inK_i64]; omega) | rfl | assumption | (exact (hv.ext x).isSome (by omega))) ?_)
        refine CallsH.mono (within60 0 (shops - 1 - i) _ _ _ [xs.getD i 0] _ intsV_one (by omega)) ?_
        rintro v h2 ⟨rfl, x2⟩
        replace x2 := x2.of_push
        cases hb : inB 0 (shops - 1 - i) [xs.getD i 0]
        · simp only [Bool.not_false, coreS, Value.cells, Value.oneCell', Nat.reduceAdd, Nat.reduceSub, Nat.reduceMul, Nat.reduceLeDiff, Int.reduceEq, Nat.reduceEqDiff, agg3, by3, inf3, sz3, zero3, Try.underlying22]
          refine ⟨?_, x.trans x2⟩
          rw [chkE, if_pos hsh, if_neg hxl, if_neg]
          rw [chkB_iff]
          intro H
          have := H i hil
          rw [inB_one'] at hb
          omega
        · simp only [Bool.not_true, coreS, Value.cells, Value.oneCell', Nat.reduceAdd, Nat.reduceSub, Nat.reduceMul, Nat.reduceLeDiff, Int.reduceEq, Nat.reduceEqDiff, agg3, by3, inf3, sz3, zero3, Try.underlying22]
          refine ⟨by rw [inK_i64]; omega, roundK_mk (by kernel_rfl) ⟨i + 1, by omega, rfl, x.trans x2, fun j hj => ?_⟩ ?_⟩
          · rcases Nat.lt_or_ge j i with h3 | h3
            · exact hno j h3
            · have : j = i := by omega
              subst this
              rw [inB_one] at hb
              omega
          · show n - ((i : Int) + 1).toNat < n - (i : Int).toNat
            omega
      · refine ⟨?_, x⟩
        rw [chkE, if_pos hsh, if_neg hxl, if_pos]
        rw [chkB_iff]
        exact fun j hj => hno j (by omega)
    · refine ⟨?_, x1⟩
      rw [chkE, if_pos hsh, if_pos (by omega)]
  · have hsh := openE_ne.1 hne
    have e6 : openE shops [] = 6 := by rw [openE_nil', if_neg hsh]
    simp only [e6, coreS, Value.cells, Value.oneCell', Nat.reduceAdd, Nat.reduceSub, Nat.reduceMul, Nat.reduceLeDiff, Int.reduceEq, Nat.reduceEqDiff, agg3, by3, inf3, sz3, zero3, Try.underlying22]
    refine ⟨?_, x1⟩
    rw [chkE, if_neg hsh]
theorem checkCode24 (shops : Int) (a : Option Addr) (n c : Nat) (xs : List Int) (h : Eng.Heap) (hv : IntsV h a n xs) (hl : n ≤ 1000000) :
    CallsH Try.prog 24 #[.int .i64 shops, .slice a n c] h (fun v h' => v = .int .i64 (chkE shops xs) ∧ h' = h) := by
  have hn := hv.len
  refine CallsH_of_exec Try.func24 rfl bod24 ?_
  simp only [Try.ntmps24, Try.results24, coreS, stK_some, splice, Value.cells, Value.oneCell', Nat.reduceAdd, Nat.reduceSub, Nat.reduceMul, Nat.reduceLeDiff, Int.reduceEq, Nat.reduceEqDiff, agg3, by3, inf3, sz3, Try.underlying22]
  refine CallsH.mono (isShops61 _ _) ?_
  rintro v h1 ⟨rfl, rfl⟩
  by_cases h0 : openE shops [] = 0
  · have hsh : 1 ≤ shops ∧ shops ≤ 12 := by
      have := openE_ne (n := shops)
      omega
    simp only [h0, coreS, Value.cells, Value.oneCell', Nat.reduceAdd, Nat.reduceSub, Nat.reduceMul, Nat.reduceLeDiff, Int.reduceEq, Nat.reduceEqDiff, agg3, by3, inf3, sz3, Try.underlying22]
    refine ⟨fun heq => ?_, fun hne => ?_⟩
    · have hxl : ¬ ((xs.length : Int) ≠ shops) := by omega
      refine WP_loopI [4, 5, 13, 14, 15, 16, 17, 18, 19, 20, 21, 22, 23, 24, 25, 26, 27, 28, 29, 30, 31, 32] (fun g h' => h' = h1 ∧ ∃ i : Nat, i ≤ n ∧ g 5 = .int .i64 i ∧ ∀ j < i, 0 ≤ xs.getD j 0 ∧ xs.getD j 0 ≤ shops - 1 - j) (fun g _ => match g 5 with | .int _ m => n - m.toNat | _ => 0) ⟨rfl, 0, by omega, rfl, fun j hj => by omega⟩ ?_
      rintro g h' ⟨rfl, i, hi, hg, hno⟩
      simp only [hg, coreS, Value.cells, Value.oneCell', Nat.reduceAdd, Nat.reduceSub, Nat.reduceMul, Nat.reduceLeDiff, Int.reduceEq, Nat.reduceEqDiff, agg3, by3, inf3, sz3, Try.underlying22]
      refine ⟨fun hlt => ?_, fun hge => ?_⟩
      · have hil : i < xs.length := by omega
        simp only [hv.cell hil, coreS, Value.cells, Value.oneCell', Nat.reduceAdd, Nat.reduceSub, Nat.reduceMul, Nat.reduceLeDiff, Int.reduceEq, Nat.reduceEqDiff, agg3, by3, inf3, sz3, Try.underlying22]
        repeat (refine And.intro (by first | omega | (rw [inK_i64]; omega) | rfl | assumption | (exact hv.isSome (by omega))) ?_)
        have bad : ¬ (0 ≤ xs.getD i 0 ∧ xs.getD i 0 ≤ shops - 1 - i) → chkE shops xs = 3 := fun hb => by
          rw [chkE, if_pos hsh, if_neg hxl, if_neg]
          rw [chkB_iff]
          exact fun H => hb (H i hil)
        refine ⟨fun hb => ?_, fun hb => ?_⟩
        · rw [bad (by omega)]
        · repeat (refine And.intro (by first | omega | (rw [inK_i64]; omega) | rfl | assumption | (exact hv.isSome (by omega))) ?_)
          refine ⟨fun hb2 => ?_, fun hb2 => ⟨by rw [inK_i64]; omega, roundK_mk (by kernel_rfl) ⟨rfl, i + 1, by omega, rfl, fun j hj => ?_⟩ ?_⟩⟩
          · rw [bad (by omega)]
          · rcases Nat.lt_or_ge j i with h3 | h3
            · exact hno j h3
            · have : j = i := by omega
              subst this
              omega
          · show n - ((i : Int) + 1).toNat < n - (i : Int).toNat
            omega
      · rw [chkE, if_pos hsh, if_neg hxl, if_pos]
        rw [chkB_iff]
        exact fun j hj => hno j (by omega)
    · rw [chkE, if_pos hsh, if_pos (by omega)]
  · have hsh := openE_ne.1 h0
    simp only [h0, coreS, Value.cells, Value.oneCell', Nat.reduceAdd, Nat.reduceSub, Nat.reduceMul, Nat.reduceLeDiff, Int.reduceEq, Nat.reduceEqDiff, agg3, by3, inf3, sz3, Try.underlying22]
    rw [chkE, if_neg hsh]
def ordZ (shops : Int) (xs : List Int) : List Int := if chkE shops xs = 0 then zs (ordF (List.range shops.toNat) (natL xs)) else []
theorem listP_err {e : Int} {zl : List Int} (h' : Eng.Heap) (hz : zl = []) : ListP e zl h' (.tuple #[.slice none 0 0, .int .i64 e]) := ⟨none, 0, 0, rfl, by omega, by omega, by rw [hz]; exact IntsV.nil _⟩
theorem orderR20 (shops : Int) (a : Option Addr) (n c : Nat) (xs : List Int) (h : Eng.Heap) (hv : IntsV h a n xs) (hl : n ≤ 1000000) :
    CallsH Try.prog 20 #[.int .i64 shops, .slice a n c] h (fun v h' => Ext h h' ∧ ListP (chkE shops xs) (ordZ shops xs) h' v) := by
  have hn := hv.len
  refine CallsH_of_exec Try.func20 rfl bod20 ?_
  simp only [Try.ntmps20, Try.results20, coreS, stK_some, splice, Value.cells, Value.oneCell', Nat.reduceAdd, Nat.reduceSub, Nat.reduceMul, Nat.reduceLeDiff, Int.reduceEq, Nat.reduceEqDiff]
  refine CallsH.mono (checkCode24 shops a n c xs h hv hl) ?_
  rintro v h1 ⟨rfl, rfl⟩
  by_cases h0 : chkE shops xs = 0
  · obtain ⟨k, rfl, hk1, hk2, hxl, hz, hf⟩ := chkE_ok h0
    simp only [h0, coreS, Value.cells, Value.oneCell', Nat.reduceAdd, Nat.reduceSub, Nat.reduceMul, Nat.reduceLeDiff, Int.reduceEq, Nat.reduceEqDiff]
    have hv' := hv
    rw [← hz] at hv'
    refine CallsH.mono (orderOf54 k a n c (natL xs) _ hv' hf (by omega) (by omega)) ?_
    rintro v h2 ⟨x2, a2, c2, rfl, O2⟩
    simp only [coreS, Value.cells, Value.oneCell', Nat.reduceAdd, Nat.reduceSub, Nat.reduceMul, Nat.reduceLeDiff, Int.reduceEq, Nat.reduceEqDiff]
    refine ⟨x2, a2, _, c2, rfl, ?_, O2.cap, ?_⟩
    · rw [zs_length, ordF_length, natL_length]; omega
    · rw [ordZ, if_pos h0, Int.toNat_natCast]
      exact O2.ints
  · simp only [h0, coreS, Value.cells, Value.oneCell', Nat.reduceAdd, Nat.reduceSub, Nat.reduceMul, Nat.reduceLeDiff, Int.reduceEq, Nat.reduceEqDiff]
    refine CallsH.mono (checkCode24 shops a n c xs h1 hv hl) ?_
    rintro v h2 ⟨rfl, rfl⟩
    simp only [coreS, Value.cells, Value.oneCell', Nat.reduceAdd, Nat.reduceSub, Nat.reduceMul, Nat.reduceLeDiff, Int.reduceEq, Nat.reduceEqDiff]
    exact ⟨Ext.refl _, listP_err _ (if_neg h0)⟩
theorem order19 (shops : Int) (a : Option Addr) (n c : Nat) (xs : List Int) (h : Eng.Heap) (hv : IntsV h a n xs) (hl : n ≤ 1000000) :
    CallsH Try.prog 19 #[.int .i64 shops, .slice a n c] h (fun v h' => Ext h h' ∧ ListP (chkE shops xs) (ordZ shops xs) h' v) := by
  have hn := hv.len
  refine CallsH_of_exec Try.func19 rfl bod19 ?_
  simp only [Try.ntmps19, Try.results19, coreS, stK_some, splice, Value.cells, Value.oneCell', Nat.reduceAdd, Nat.reduceSub, Nat.reduceMul, Nat.reduceLeDiff, Int.reduceEq, Nat.reduceEqDiff, agg3, by3, inf3, sz3, zero3, Try.underlying22]
  refine CallsH.mono (checkCode23 shops a n c xs h hv hl) ?_
  rintro v h1 ⟨rfl, x1⟩
  by_cases h0 : chkE shops xs = 0
  · have h0' := h0
    obtain ⟨k, rfl, hk1, hk2, hxl, hz, hf⟩ := chkE_ok h0
    simp only [h0, coreS, Value.cells, Value.oneCell', Nat.reduceAdd, Nat.reduceSub, Nat.reduceMul, Nat.reduceLeDiff, Int.reduceEq, Nat.reduceEqDiff, agg3, by3, inf3, sz3, zero3, Try.underlying22]
    refine CallsH.mono (newRound52 k hk1 hk2 h1) ?_
    rintro v h2 ⟨b, rfl, hb, hb2, x2⟩
    simp only [coreS, Value.cells, Value.oneCell', Nat.reduceAdd, Nat.reduceSub, Nat.reduceMul, Nat.reduceLeDiff, Int.reduceEq, Nat.reduceEqDiff, agg3, by3, inf3, sz3, zero3, Try.underlying22]
    have R0 := Rnd0.new hk1 hk2 hb
    have hbl := lt_of_get hb
    have hv2 := hv.ext (x1.trans x2)
    refine WP_loopI [8, 10, 21, 22, 23, 24, 25, 26, 27, 28, 29, 30, 31, 32, 33, 34, 35, 36] (fun g h' => ∃ i : Nat, i ≤ n ∧ g 21 = .int .i64 i ∧ Ext h h' ∧ h2.size ≤ h'.size ∧ Rnd0 h' b k (aft (List.range k) ((natL xs).take i)) ∧ ∃ a2 c2, g 8 = .slice a2 i c2 ∧ OwnI h2.size h' 3 a2 i c2 (zs (ordF (List.range k) ((natL xs).take i)))) (fun g _ => match g 21 with | .int _ m => n - m.toNat | _ => 0) ⟨0, by omega, rfl, x1.trans x2, Nat.le_refl _, R0, none, 0, rfl, OwnI.nil _ _ _⟩ ?_
    rintro g h' ⟨i, hi, hg, x, hsz, R, a2, c2, hg8, O⟩
    simp only [hg, hg8, coreS, Value.cells, Value.oneCell', Nat.reduceAdd, Nat.reduceSub, Nat.reduceMul, Nat.reduceLeDiff, Int.reduceEq, Nat.reduceEqDiff, agg3, by3, inf3, sz3, zero3, Try.underlying22]
    refine ⟨fun hlt => ?_, fun hge => ?_⟩
    · have hil : i < xs.length := by omega
      have hil2 : i < (natL xs).length := by rw [natL_length]; exact hil
      have hx0 : xs.getD i 0 = (((natL xs).getD i 0 : Nat) : Int) := by
        conv => lhs; rw [← hz]
        rw [zs_get]
      obtain ⟨m, hm⟩ : ∃ m, m = (natL xs).getD i 0 := ⟨_, rfl⟩
      rw [← hm] at hx0
      obtain ⟨L, hL⟩ : ∃ L, L = aft (List.range k) ((natL xs).take i) := ⟨_, rfl⟩
      rw [← hL] at R
      have hLl : L.length = k - i := by
        rw [hL, aft_length _ _ (by rw [List.length_range]; exact fits_take _ _ _ hf), List.length_range, List.length_take, natL_length]; omega
      have hmL : m < L.length := by rw [hLl, hm]; exact fits_get _ _ _ hf hil2
      simp only [(hv.ext x).cell hil, hx0, coreS, Value.cells, Value.oneCell', Nat.reduceAdd, Nat.reduceSub, Nat.reduceMul, Nat.reduceLeDiff, Int.reduceEq, Nat.reduceEqDiff, agg3, by3, inf3, sz3, zero3, Try.underlying22]
      repeat (refine And.intro (by first | omega | (rw [inK_i64]; omega) | rfl | assumption | (exact (hv.ext x).isSome (by omega))) ?_)
      refine WP_draw (by kernel_rfl) sta_eq [(0, 3), (1, 3), (2, 3), (3, 3), (4, 3), (5, 3), (6, 0), (7, 0), (8, 1), (9, 1), (10, 1), (11, 0)] (by kernel_rfl) rfl (by kernel_rfl) ?_
      simp only [coreS, Value.cells, Value.oneCell', Nat.reduceAdd, Nat.reduceSub, Nat.reduceMul, Nat.reduceLeDiff, Int.reduceEq, Nat.reduceEqDiff, drawS, agg3, by3, inf3, sz3, zero3, Try.underlying22]
      repeat (refine And.intro (by first | omega | (rw [inK_i64]; omega) | rfl | assumption | (exact O.cap) | (exact_mod_cast O.cap)) ?_)
      have e0 : (if (i : Int) = ((0 : Nat) : Int) then a2 else eltP a2 0) = a2 := by rw [eltP_zero]; split <;> rfl
      have ei : ((i : Int) - ((0 : Nat) : Int)).toNat = i := by omega
      rw [e0, ei]
      refine CallsH.mono (Rnd0.pass hk1 hk2 R hmL) ?_
      rintro v h3 ⟨rfl, c3, R3⟩
      simp only [coreS, Value.cells, Value.oneCell', Nat.reduceAdd, Nat.reduceSub, Nat.reduceMul, Nat.reduceLeDiff, Int.reduceEq, Nat.reduceEqDiff, drawS, agg3, by3, inf3, sz3, zero3, Try.underlying22]
      repeat (refine And.intro (by first | omega | (rw [inK_i64]; omega) | rfl | assumption) ?_)
      have O3 : OwnI h2.size h3 3 a2 i i (zs (ordF (List.range k) ((natL xs).take i))) := (O.keep fun p hp => c3.old _ (O.lt hp).1 (by have := (O.lt hp).2; omega)).cut
      have O3' := O3.ext ((Ext.refl h3).push (.cells #[.int .i64 (L.getD m 0 : Nat)] 3))
      have x3 := Chg.fresh x c3 (by have := x1.size; omega)
      have s3 : h2.size ≤ h3.size := Nat.le_trans hsz c3.size
      refine app22 rfl rfl O3' (by simp; omega) intsV_one (by omega) fun a4 c4 h4 O4 A => ?_
      simp only [hvK_eq, coreS, Value.cells, Value.oneCell', Nat.reduceAdd, Nat.reduceSub, Nat.reduceMul, Nat.reduceLeDiff, Int.reduceEq, Nat.reduceEqDiff, drawS, agg3, by3, inf3, sz3, zero3, Try.underlying22]
      have hb4 : h4[b]? = h3[b]? := by
        have h5 : (h3.push (.cells #[.int .i64 (L.getD m 0 : Nat)] 3))[b]? = h3[b]? := by
          rw [push_get, if_neg]
          have := R3.lt; omega
        rw [← h5]
        refine A.old b (by have := R3.lt; simp; omega) fun p hp => ?_
        have := (O3'.lt hp).2
        omega
      refine ⟨by rw [inK_i64]; omega, roundK_mk (by kernel_rfl) ⟨i + 1, by omega, rfl, A.extN O3' (x3.push _) (Nat.le_trans x1.size x2.size), Nat.le_trans s3 (Nat.le_trans (by simp) A.size), ?_, a4, c4, rfl, ?_⟩ ?_⟩
      · rw [take_next hil2, aft_snoc, ← hL, ← hm]
        exact R3.get hb4
      · rw [take_next hil2, ordF_snoc, zs_append, ← hL, ← hm]
        exact O4
      · show n - ((i : Int) + 1).toNat < n - (i : Int).toNat
        omega
    · have : i = n := by omega
      subst this
      rw [List.take_of_length_le (by rw [natL_length]; omega)] at O
      refine ⟨x, a2, _, c2, rfl, by omega, O.cap, ?_⟩
      rw [ordZ, if_pos h0', Int.toNat_natCast]
      exact O.ints
  · simp only [h0, coreS, Value.cells, Value.oneCell', Nat.reduceAdd, Nat.reduceSub, Nat.reduceMul, Nat.reduceLeDiff, Int.reduceEq, Nat.reduceEqDiff, agg3, by3, inf3, sz3, zero3, Try.underlying22]
    exact ⟨x1, listP_err _ (if_neg h0)⟩
end Go.Proofs.Ytoediaepoddonaa
