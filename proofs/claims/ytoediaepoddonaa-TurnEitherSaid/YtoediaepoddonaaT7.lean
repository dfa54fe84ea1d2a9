/- Walks: Round, Index, When, Has, isOrder. -/
import Derived.Test.YtoediaepoddonaaT3
import Derived.Test.YtoediaepoddonaaT6
namespace Go.Proofs.Ytoediaepoddonaa
open Go Go.Proofs Go.Eng Tab
set_option maxRecDepth 100000
set_option linter.unusedSimpArgs false
set_option linter.unusedVariables false
set_option maxHeartbeats 1000000
theorem openE_one {n s : Int} (h : openE n [s] = 0) : (1 ≤ n ∧ n ≤ 12) ∧ 1 ≤ s ∧ s ≤ 1099511627776 := by
  unfold openE at h
  split at h
  · rename_i hc
    simp at h
    omega
  · omega
theorem Chg.fresh {h0 h h' : Heap} {b : Nat} (x : Ext h0 h) (c : Chg h h' b) (hb : h0.size ≤ b) : Ext h0 h' := ⟨Nat.le_trans x.size c.size, fun i hi => (c.old i (Nat.lt_of_lt_of_le hi x.size) (by omega)).trans (x.old i hi)⟩
/-- A round in the heap: of whom is left, this list. -/
def RndV (h : Heap) (rb n : Nat) (L : List Nat) : Prop := ∃ gone a, gone.length = 12 ∧ a < n ∧ h[rb]? = some (.cells (rcel n gone a).toArray 105) ∧ leftL n gone a = L
theorem RndV.new {h : Heap} {rb n : Nat} (hn1 : 1 ≤ n) (hn : n ≤ 12) (hr : h[rb]? = some (.cells (rcells n (List.replicate 12 0) 0).toArray 105)) : RndV h rb n (List.range n) :=
  ⟨List.replicate 12 0, 0, by simp, by omega, hr, leftL_zero n hn⟩
theorem RndV.pass {h : Heap} {rb n m : Nat} {L : List Nat} (hn1 : 1 ≤ n) (hn : n ≤ 12) (H : RndV h rb n L) (hm : m < L.length) :
    CallsH Try.prog 53 #[.pointer (some ⟨rb, 0, none⟩), .int .i64 m] h (fun v h' => v = .int .i64 (L.getD m 0 : Nat) ∧ Chg h h' rb ∧ RndV h' rb n (turned L m)) := by
  obtain ⟨gone, a, h1, h2, h3, rfl⟩ := H
  refine CallsH.mono (pass53 rb n a m gone h hn1 hn h2 h1 h3 hm) ?_
  rintro v h' ⟨q1, q2, q3⟩
  exact ⟨q1, q2, _, _, by simpa using h1, Nat.mod_lt _ (by omega), q3, left_pass (by omega) hm⟩
theorem round26 (shops step : Int) (h : Heap) : CallsH Try.prog 26 #[.int .i64 shops, .int .i64 step] h (fun v h' => Ext h h' ∧ ((openE shops [step] ≠ 0 ∧ v = .tuple #[.slice none 0 0, .int .i64 (openE shops [step])]) ∨
    (openE shops [step] = 0 ∧ ∃ b, v = .tuple #[.slice (some ⟨b, 0, none⟩) shops.toNat shops.toNat, .int .i64 0] ∧ h.size ≤ b ∧ h'[b]? = some (.cells (ints (zs (roundL shops.toNat step))).toArray 3)))) := by
  refine CallsH_of_exec Try.func26 rfl bod26 ?_
  simp only [Try.ntmps26, Try.results26, coreS, stK_some, splice, Value.cells, Value.oneCell', Nat.reduceAdd, Nat.reduceSub, Nat.reduceMul, Nat.reduceLeDiff, Int.reduceEq, Nat.reduceEqDiff, agg3, by2, by3, inf2, inf3, sz2, sz3, zero2, zero3, Try.underlying22, Try.underlying107]
  refine CallsH.mono (open59 shops _ _ _ [step] _ intsV_one (by omega)) ?_
  rintro v h1 ⟨hx1, hv⟩
  replace hx1 := hx1.of_push
  rcases hv with ⟨h0, b, rfl, hb, hb2⟩ | ⟨hne, rfl⟩
  · obtain ⟨hsh, hst⟩ := openE_one h0
    obtain ⟨n, rfl⟩ : ∃ n : Nat, shops = n := ⟨shops.toNat, by omega⟩
    have hn1 : 1 ≤ n := by omega
    have hn : n ≤ 12 := by omega
    have hR := RndV.new hn1 hn hb
    simp only [h0, coreS, Value.cells, Value.oneCell', Nat.reduceAdd, Nat.reduceSub, Nat.reduceMul, Nat.reduceLeDiff, Int.reduceEq, Nat.reduceEqDiff, agg3, by2, by3, inf2, inf3, sz2, sz3, zero2, zero3, Try.underlying22, Try.underlying107]
    refine ⟨by omega, by omega, by omega, ?_⟩
    have hbl := lt_of_get hb
    refine ⟨by omega, ?_⟩
    refine WP_loopI [9, 24, 25, 26, 27, 28, 29, 30, 31, 32, 33, 34, 35, 36, 37, 38] (fun g h' => ∃ i : Nat, i ≤ n ∧ g 24 = .int .i64 i ∧ RndV h' b n (aft (List.range n) ((stepC n step).take i)) ∧ h'[h1.size]? = some (.cells (ints (zs (ordF (List.range n) ((stepC n step).take i)) ++ List.replicate (n - i) 0)).toArray 3) ∧ Ext h h') (fun g _ => match g 24 with | .int _ m => n - m.toNat | _ => 0) ?_ ?_
    · refine ⟨0, by omega, rfl, ?_, ?_, hx1.push _⟩
      · obtain ⟨gone, a, q1, q2, q3, q4⟩ := hR
        exact ⟨gone, a, q1, q2, push_old q3, by simpa [aft] using q4⟩
      · simp only [push_get, if_true, List.take_zero, ordF, zs, ints, List.map_nil, List.nil_append, Nat.sub_zero, List.flatten_replicate_singleton, List.map_replicate]
    · intro g h' hI
      obtain ⟨i, hi, hg24, hRd, hout, hx⟩ := hI
      simp only [hg24, coreS, Value.cells, Value.oneCell', Nat.reduceAdd, Nat.reduceSub, Nat.reduceMul, Nat.reduceLeDiff, Int.reduceEq, Nat.reduceEqDiff, agg3, by2, by3, inf2, inf3, sz2, sz3, zero2, zero3, Try.underlying22, Try.underlying107]
      refine ⟨fun hlt => ?_, fun hge => ?_⟩
      · have hin : i < n := by omega
        have hc : (stepC n step).getD i 0 = ((step - 1) % ((n - i : Nat) : Int)).toNat := stepC_get hin
        have hni : (n : Int) - i = ((n - i : Nat) : Int) := by omega
        have hc0 := Int.emod_nonneg (step - 1) (show ((n - i : Nat) : Int) ≠ 0 by omega)
        have e1 : (step - 1).tmod ((n - i : Nat) : Int) = (((stepC n step).getD i 0 : Nat) : Int) := by rw [Int.tmod_eq_emod_of_nonneg (by omega), hc]; omega
        have htk : (stepC n step).take (i + 1) = (stepC n step).take i ++ [(stepC n step).getD i 0] := by
          rw [List.take_add_one, List.getElem?_eq_getElem (by rw [stepC_length]; omega), List.getD, List.getElem?_eq_getElem (by rw [stepC_length]; omega)]; rfl
        have hfit := stepC_fits n step
        have hL : (aft (List.range n) ((stepC n step).take i)).length = n - i := by
          rw [aft_length _ _ (by rw [List.length_range]; exact fits_take _ _ _ hfit), List.length_range, List.length_take, stepC_length]; omega
        have hcl := fits_get _ _ i hfit (by rw [stepC_length]; omega)
        rw [hni, e1]
        refine ⟨by rw [inK_i64]; omega, by rw [inK_i64]; omega, by omega, ?_⟩
        refine CallsH.mono (RndV.pass hn1 hn hRd (by omega)) ?_
        rintro v h2 ⟨rfl, hc2, hR2⟩
        have ho2 := hc2.get hout (by omega)
        have hx2 := Chg.fresh hx hc2 (by have := hb2; simp only [push_size] at this; omega)
        simp only [ho2, coreS, Value.cells, Value.oneCell', Nat.reduceAdd, Nat.reduceSub, Nat.reduceMul, Nat.reduceLeDiff, Int.reduceEq, Nat.reduceEqDiff, agg3, by2, by3, inf2, inf3, sz2, sz3, zero2, zero3, Try.underlying22, Try.underlying107]
        refine ⟨⟨by omega, by omega⟩, rfl, ?_⟩
        have hlen : (zs (ordF (List.range n) ((stepC n step).take i))).length = i := by rw [zs_length, ordF_length, List.length_take, stepC_length]; omega
        refine stK_int ho2 (by simp [hlen]; omega) fun h3 ho3 hu3 => ?_
        simp only [coreS, Value.cells, Value.oneCell', Nat.reduceAdd, Nat.reduceSub, Nat.reduceMul, Nat.reduceLeDiff, Int.reduceEq, Nat.reduceEqDiff, agg3, by2, by3, inf2, inf3, sz2, sz3, zero2, zero3, Try.underlying22, Try.underlying107]
        refine ⟨by rw [inK_i64]; omega, roundK_mk (by kernel_rfl) ⟨i + 1, by omega, rfl, ?_, ?_, hu3.ext hx2 (by have := hx1.size; omega)⟩ ?_⟩
        · rw [htk, aft_snoc]
          obtain ⟨gone, a, q1, q2, q3, q4⟩ := hR2
          exact ⟨gone, a, q1, q2, hu3.get q3 (by omega), q4⟩
        · rw [ho3, htk, ordF_snoc, zs_append]
          congr 3
          rw [List.set_append_right _ _ (by omega), hlen, Nat.sub_self, show n - i = (n - (i + 1)) + 1 by omega, List.replicate_succ, List.set_cons_zero, List.append_assoc]
          rfl
        · show n - ((i : Int) + 1).toNat < n - (i : Int).toNat
          omega
      · have : i = n := by omega
        subst this
        refine ⟨hx, .inr ⟨h1.size, rfl, by have := hx1.size; omega, ?_⟩⟩
        rw [hout, List.take_of_length_le (by rw [stepC_length]; omega), Nat.sub_self]
        simp [roundL]
  · simp only [hne, coreS, Value.cells, Value.oneCell', Nat.reduceAdd, Nat.reduceSub, Nat.reduceMul, Nat.reduceLeDiff, Int.reduceEq, Nat.reduceEqDiff, agg3, by2, by3, inf2, inf3, sz2, sz3, zero2, zero3, Try.underlying22, Try.underlying107]
    exact ⟨hx1, .inl hne⟩
theorem index65 (a : Option Addr) (n c : Nat) (xs : List Int) (x : Int) (h : Heap) (hs : IntsV h a n xs) (hl : n ≤ 1000000) :
    CallsH Try.prog 65 #[.slice a n c, .int .i64 x] h (fun v h' => v = .int .i64 (idx (fun y => decide (x = y)) xs) ∧ h' = h) := by
  have hn := hs.len
  refine CallsH_of_exec Try.func65 rfl bod65 ?_
  simp only [Try.ntmps65, Try.results65, coreS, stK_some, splice, Value.cells, Value.oneCell', Nat.reduceAdd, Nat.reduceSub, Nat.reduceMul, Nat.reduceLeDiff, Int.reduceEq, Nat.reduceEqDiff, agg3, by3, inf3, sz3, Try.underlying22]
  refine WP_loopI [4, 5, 8, 9, 10, 11, 12, 13, 14, 15, 16, 17, 18] (fun g h' => h' = h ∧ ∃ i : Nat, i ≤ n ∧ g 8 = .int .i64 i ∧ (∀ j < i, decide (x = xs.getD j 0) = false)) (fun g _ => match g 8 with | .int _ m => n - m.toNat | _ => 0) ?_ ?_
  · exact ⟨rfl, 0, by omega, rfl, fun j hj => by omega⟩
  · intro g h' hI
    obtain ⟨rfl, i, hin, hg8, hno⟩ := hI
    by_cases hi : i < xs.length
    · simp only [hg8, hs.cell hi, coreS, Value.cells, Value.oneCell', Nat.reduceAdd, Nat.reduceSub, Nat.reduceMul, Nat.reduceLeDiff, Int.reduceEq, Nat.reduceEqDiff, agg3, by3, inf3, sz3, Try.underlying22]
      refine ⟨fun hlt => ⟨⟨by omega, by omega⟩, hs.isSome (by omega), fun hp => ?_, fun hp => ?_⟩, fun hge => absurd hge (by omega)⟩
      · rw [idx_some hi hno (by simpa using hp)]
      · refine ⟨by rw [inK_i64]; omega, roundK_mk (by kernel_rfl) ⟨rfl, i + 1, by omega, rfl, ?_⟩ ?_⟩
        · intro j hj
          by_cases hji : j = i
          · subst hji; simpa using hp
          · exact hno j (by omega)
        · show n - ((i : Int) + 1).toNat < n - (i : Int).toNat
          omega
    · simp only [hg8, coreS, Value.cells, Value.oneCell', Nat.reduceAdd, Nat.reduceSub, Nat.reduceMul, Nat.reduceLeDiff, Int.reduceEq, Nat.reduceEqDiff, agg3, by3, inf3, sz3, Try.underlying22]
      refine ⟨fun hlt => absurd hlt (by omega), fun hge => ?_⟩
      rw [idx_none fun j hj => hno j (by omega)]
theorem has80 (a : Option Addr) (n c : Nat) (xs : List Int) (x : Int) (h : Heap) (hs : IntsV h a n xs) (hl : n ≤ 1000000) :
    CallsH Try.prog 80 #[.slice a n c, .int .i64 x] h (fun v h' => v = .bool (decide (x ∈ xs)) ∧ h' = h) := by
  have hn := hs.len
  refine CallsH_of_exec Try.func80 rfl bod80 ?_
  simp only [Try.ntmps80, Try.results80, coreS, stK_some, splice, Value.cells, Value.oneCell', Nat.reduceAdd, Nat.reduceSub, Nat.reduceMul, Nat.reduceLeDiff, Int.reduceEq, Nat.reduceEqDiff, agg3, by3, inf3, sz3, Try.underlying22]
  refine WP_loopI [4, 5, 6, 7, 8, 9, 10, 11, 12, 13, 14, 15, 16, 17] (fun g h' => h' = h ∧ ∃ i : Nat, i ≤ n ∧ g 5 = .int .i64 i ∧ (∀ j < i, xs.getD j 0 ≠ x)) (fun g _ => match g 5 with | .int _ m => n - m.toNat | _ => 0) ?_ ?_
  · exact ⟨rfl, 0, by omega, rfl, fun j hj => by omega⟩
  · intro g h' hI
    obtain ⟨rfl, i, hin, hg8, hno⟩ := hI
    by_cases hi : i < xs.length
    · simp only [hg8, hs.cell hi, coreS, Value.cells, Value.oneCell', Nat.reduceAdd, Nat.reduceSub, Nat.reduceMul, Nat.reduceLeDiff, Int.reduceEq, Nat.reduceEqDiff, agg3, by3, inf3, sz3, Try.underlying22]
      refine ⟨fun hlt => ⟨⟨by omega, by omega⟩, hs.isSome (by omega), fun hp => ?_, fun hp => ?_⟩, fun hge => absurd hge (by omega)⟩
      · have : x ∈ xs := by
          rw [← hp]; simp [List.getD, List.getElem?_eq_getElem hi]
        simp [this]
      · refine ⟨by rw [inK_i64]; omega, roundK_mk (by kernel_rfl) ⟨rfl, i + 1, by omega, rfl, ?_⟩ ?_⟩
        · intro j hj
          by_cases hji : j = i
          · subst hji; exact hp
          · exact hno j (by omega)
        · show n - ((i : Int) + 1).toNat < n - (i : Int).toNat
          omega
    · simp only [hg8, coreS, Value.cells, Value.oneCell', Nat.reduceAdd, Nat.reduceSub, Nat.reduceMul, Nat.reduceLeDiff, Int.reduceEq, Nat.reduceEqDiff, agg3, by3, inf3, sz3, Try.underlying22]
      refine ⟨fun hlt => absurd hlt (by omega), fun hge => ?_⟩
      have : x ∉ xs := by
        intro hx
        obtain ⟨j, hj, he⟩ := List.getElem_of_mem hx
        exact hno j (by omega) (by simp [List.getD, List.getElem?_eq_getElem hj, he])
      simp [this]
theorem when30 (shops step shop : Int) (h : Heap) : CallsH Try.prog 30 #[.int .i64 shops, .int .i64 step, .int .i64 shop] h (fun v h' => Ext h h' ∧ ∃ w e, v = .tuple #[.int .i64 w, .int .i64 e] ∧
    ((openE shops [step] ≠ 0 ∧ w = 0 ∧ e = openE shops [step]) ∨ (openE shops [step] = 0 ∧ ¬ (0 ≤ shop ∧ shop < shops) ∧ w = 0 ∧ e = 3) ∨
      (openE shops [step] = 0 ∧ (0 ≤ shop ∧ shop < shops) ∧ w = idx (fun y => decide (shop = y)) (zs (roundL shops.toNat step)) ∧ e = 0))) := by
  refine CallsH_of_exec Try.func30 rfl bod30 ?_
  simp only [Try.ntmps30, Try.results30, coreS, stK_some, splice, Value.cells, Value.oneCell', Nat.reduceAdd, Nat.reduceSub, Nat.reduceMul, Nat.reduceLeDiff, Int.reduceEq, Nat.reduceEqDiff, by3, inf3, sz3, zero3, Try.underlying22]
  refine CallsH.mono (round26 ..) ?_
  rintro v h1 ⟨hx1, ⟨hne, rfl⟩ | ⟨h0, b, rfl, hb, hb2⟩⟩
  · simp only [hne, coreS, Value.cells, Value.oneCell', Nat.reduceAdd, Nat.reduceSub, Nat.reduceMul, Nat.reduceLeDiff, Int.reduceEq, Nat.reduceEqDiff, by3, inf3, sz3, zero3, Try.underlying22]
    exact ⟨hx1, _, _, rfl, .inl ⟨hne, rfl, rfl⟩⟩
  · obtain ⟨hsh, hst⟩ := openE_one h0
    simp only [h0, coreS, Value.cells, Value.oneCell', Nat.reduceAdd, Nat.reduceSub, Nat.reduceMul, Nat.reduceLeDiff, Int.reduceEq, Nat.reduceEqDiff, by3, inf3, sz3, zero3, Try.underlying22]
    refine ⟨by rw [inK_i64]; omega, ?_⟩
    refine CallsH.mono (within60 0 (shops - 1) _ _ _ [shop] _ intsV_one (by omega)) ?_
    rintro v h2 ⟨rfl, hx2⟩
    have hb3 := hx2.get (push_old hb2)
    replace hx2 := hx1.trans hx2.of_push
    cases hb1 : inB 0 (shops - 1) [shop]
    · simp only [Bool.not_false, coreS, Value.cells, Value.oneCell', Nat.reduceAdd, Nat.reduceSub, Nat.reduceMul, Nat.reduceLeDiff, Int.reduceEq, Nat.reduceEqDiff, by3, inf3, sz3, zero3, Try.underlying22]
      refine ⟨hx2, _, _, rfl, .inr (.inl ⟨?_, rfl, rfl⟩)⟩
      simp [inB] at hb1
      omega
    · have hi : 0 ≤ shop ∧ shop < shops := by simp [inB] at hb1; omega
      simp only [Bool.not_true, coreS, Value.cells, Value.oneCell', Nat.reduceAdd, Nat.reduceSub, Nat.reduceMul, Nat.reduceLeDiff, Int.reduceEq, Nat.reduceEqDiff, by3, inf3, sz3, zero3, Try.underlying22]
      have hv : IntsV h2 (some ⟨b, 0, none⟩) shops.toNat (zs (roundL shops.toNat step)) := by
        have := IntsV.block hb3
        rw [zs_length, roundL_length] at this
        exact this
      refine CallsH.mono (index65 _ _ _ _ shop _ hv (by omega)) ?_
      rintro v h3 ⟨rfl, rfl⟩
      simp only [coreS, Value.cells, Value.oneCell', Nat.reduceAdd, Nat.reduceSub, Nat.reduceMul, Nat.reduceLeDiff, Int.reduceEq, Nat.reduceEqDiff, by3, inf3, sz3, zero3, Try.underlying22]
      exact ⟨hx2, _, _, rfl, .inr (.inr ⟨hi, rfl, rfl⟩)⟩
theorem eltP_zero (a : Option Addr) : eltP a 0 = a := by cases a <;> simp [eltP, addA]
theorem intsV_take {h : Heap} {a : Option Addr} {n : Nat} {xs : List Int} (H : IntsV h a n xs) (i : Nat) (hi : i ≤ n) : IntsV h a i (xs.take i) :=
  ⟨by rw [List.length_take]; have := H.len; omega, by have := H.row.take i; rwa [show (ints xs).take i = ints (xs.take i) by simp [ints, List.map_take]] at this⟩
/-- An order of so many shops. -/
def isOrd (xs : List Int) (n : Nat) : Prop := xs.length = n ∧ ∀ i < n, 0 ≤ xs.getD i 0 ∧ xs.getD i 0 < n ∧ xs.getD i 0 ∉ xs.take i
theorem isOrder46 (a : Option Addr) (n c : Nat) (xs : List Int) (h : Heap) (hs : IntsV h a n xs) (hn1 : n ≤ 1000) (hcap : n ≤ c) (ho : isOrd xs n) :
    CallsH Try.prog 46 #[.slice a n c, .int .i64 n] h (fun v h' => v = .bool true ∧ h' = h) := by
  have hn := hs.len
  refine CallsH_of_exec Try.func46 rfl bod46 ?_
  simp only [Try.ntmps46, Try.results46, coreS, stK_some, splice, Value.cells, Value.oneCell', Nat.reduceAdd, Nat.reduceSub, Nat.reduceMul, Nat.reduceLeDiff, Int.reduceEq, Nat.reduceEqDiff, agg3, by3, inf3, sz3, Try.underlying22]
  refine WP_loopI [4, 5, 10, 11, 12, 13, 14, 15, 16, 17, 18, 19, 20, 21, 22, 23, 24, 25, 26, 27, 28, 29, 30, 31, 32, 33, 34, 35, 36, 37] (fun g h' => h' = h ∧ ∃ i : Nat, i ≤ n ∧ g 5 = .int .i64 i) (fun g _ => match g 5 with | .int _ m => n - m.toNat | _ => 0) ?_ ?_
  · exact ⟨rfl, 0, by omega, rfl⟩
  · intro g h' hI
    obtain ⟨rfl, i, hin, hg5⟩ := hI
    simp only [hg5, coreS, Value.cells, Value.oneCell', Nat.reduceAdd, Nat.reduceSub, Nat.reduceMul, Nat.reduceLeDiff, Int.reduceEq, Nat.reduceEqDiff, agg3, by3, inf3, sz3, Try.underlying22]
    refine ⟨fun hlt => ?_, fun hge => ?_⟩
    · have hi : i < n := by omega
      obtain ⟨o1, o2, o3⟩ := ho.2 i hi
      refine WP_draw (by kernel_rfl) sta_eq [(0, 0), (1, 0), (2, 0), (3, 0), (4, 0), (5, 0), (6, 0), (7, 0), (8, 0), (9, 0), (10, 0), (11, 0), (12, 0), (13, 0), (14, 0), (15, 0), (16, 0), (17, 0), (18, 0), (19, 0), (20, 0), (21, 0), (22, 0)] (by kernel_rfl) rfl (by kernel_rfl) ?_
      simp only [hs.cell (show i < xs.length by omega), coreS, Value.cells, Value.oneCell', Nat.reduceAdd, Nat.reduceSub, Nat.reduceMul, Nat.reduceLeDiff, Int.reduceEq, Nat.reduceEqDiff, drawS, agg3, by3, inf3, sz3, Try.underlying22]
      have b1 : ¬ xs.getD i 0 < 0 := by omega
      have b2 : ¬ (n : Int) ≤ xs.getD i 0 := by omega
      refine ⟨⟨by omega, by omega⟩, hs.isSome (by omega), fun hc => absurd hc b1, fun _ => ⟨⟨by omega, by omega⟩, hs.isSome (by omega), fun hc => absurd hc b2, fun _ => ⟨by omega, by omega, by omega, by omega, ⟨by omega, by omega⟩, hs.isSome (by omega), ?_⟩⟩⟩
      have e1 : (if (c : Int) = ((0 : Nat) : Int) then a else eltP a 0) = a := by rw [eltP_zero]; split <;> rfl
      have e2 : ((i : Int) - ((0 : Nat) : Int)).toNat = i := by omega
      rw [e1, e2]
      refine cQ_eq _ (has80 a i _ (xs.take i) (xs.getD i 0) _ (intsV_take hs i hin) (by omega)) ?_
      simp only [o3, decide_false, coreS, Value.cells, Value.oneCell', Nat.reduceAdd, Nat.reduceSub, Nat.reduceMul, Nat.reduceLeDiff, Int.reduceEq, Nat.reduceEqDiff, drawS, agg3, by3, inf3, sz3, Try.underlying22, hvK_eq]
      refine ⟨by rw [inK_i64]; omega, roundK_mk (by kernel_rfl) ⟨rfl, i + 1, by omega, rfl⟩ ?_⟩
      show n - ((i : Int) + 1).toNat < n - (i : Int).toNat
      omega
    · trivial
end Go.Proofs.Ytoediaepoddonaa
