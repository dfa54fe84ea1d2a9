/- Walks: TurnCodes, TurnTurned. -/
import Derived.Test.YtoediaepoddonaaT19
namespace Go.Proofs.Ytoediaepoddonaa
open Go Go.Proofs Go.Eng Go.Run Tab
set_option maxRecDepth 100000
set_option linter.unusedSimpArgs false
set_option linter.unusedVariables false
set_option maxHeartbeats 1000000
theorem chkE_fits {n : Nat} {cs : List Nat} (h1 : 1 ≤ n) (h2 : n ≤ 12) (hl : cs.length = n) (hf : fits n cs) : chkE n (zs cs) = 0 := by
  rw [chkE, if_pos (by omega), if_neg (by rw [zs_length]; omega), if_pos]
  rw [chkB_iff]
  intro i hi
  rw [zs_length] at hi
  have := fits_get _ _ _ hf hi
  rw [zs_get]
  omega
theorem codeZ_perm {n : Nat} {l : List Nat} (h1 : 1 ≤ n) (h2 : n ≤ 12) (hp : l.Perm (List.range n)) : codeZ n (zs l) = zs (codeF (List.range n) l) := by
  rw [codeZ, if_pos (begE_perm h1 h2 hp), Int.toNat_natCast, natL_zs]
theorem take_eq_iff {n i : Nat} {x y : List Nat} (hx : x.Perm (List.range n)) (hy : y.Perm (List.range n)) : (zs (x.take i) = zs (y.take i)) ↔ (zs ((codeF (List.range n) x).take i) = zs ((codeF (List.range n) y).take i)) := by
  have hbx := begF_take (begF_perm hx List.nodup_range) i
  have hby := begF_take (begF_perm hy List.nodup_range) i
  rw [← codeF_take, ← codeF_take]
  constructor
  · intro h; rw [zs_inj h]
  · intro h
    rw [← ord_code _ _ hbx, ← ord_code _ _ hby, zs_inj h]
theorem zs_take (l : List Nat) (i : Nat) : (zs l).take i = zs (l.take i) := by simp [zs, List.map_take]
theorem turnCodes9 (a b c : Int) (h : Eng.Heap) (ha : 0 ≤ a ∧ a ≤ 255) (hb : 0 ≤ b ∧ b ≤ 4294967295) (hc : 0 ≤ c ∧ c ≤ 4294967295) :
    CallsH Try.prog 9 #[.int .u8 a, .int .u32 b, .int .u32 c] h (fun v h' => v = .bool true ∧ Ext h h') := by
  refine CallsH_of_exec Try.func9 rfl bod9 ?_
  simp only [Try.ntmps9, Try.results9, coreS, stK_some, splice, Value.cells, Value.oneCell', Nat.reduceAdd, Nat.reduceSub, Nat.reduceMul, Nat.reduceLeDiff, Int.reduceEq, Nat.reduceEqDiff, by3, inf3, sz3, Try.underlying22]
  refine CallsH.mono (shops44 a _ ha.1 ha.2) ?_
  rintro v h1 ⟨rfl, rfl⟩
  obtain ⟨n, hn⟩ : ∃ n : Nat, 1 + a % 12 = n := ⟨(1 + a % 12).toNat, by omega⟩
  rw [hn]
  have hn1 : 1 ≤ n ∧ n ≤ 12 := by omega
  simp only [coreS, Value.cells, Value.oneCell', Nat.reduceAdd, Nat.reduceSub, Nat.reduceMul, Nat.reduceLeDiff, Int.reduceEq, Nat.reduceEqDiff, by3, inf3, sz3, Try.underlying22]
  refine CallsH.mono (ordered45 n b _ hn1.1 hn1.2 hb.1 hb.2) ?_
  rintro v h2 ⟨x2, a2, k2, c2, rfl, hk2, hc2, x, hx, I2⟩
  subst hk2
  simp only [coreS, Value.cells, Value.oneCell', Nat.reduceAdd, Nat.reduceSub, Nat.reduceMul, Nat.reduceLeDiff, Int.reduceEq, Nat.reduceEqDiff, by3, inf3, sz3, Try.underlying22]
  refine CallsH.mono (ordered45 k2 c _ hn1.1 hn1.2 hc.1 hc.2) ?_
  rintro v h3 ⟨x3, a3, k3, c3, rfl, hk3, hc3, y, hy, I3⟩
  subst hk3
  have J2 := I2.ext x3
  simp only [coreS, Value.cells, Value.oneCell', Nat.reduceAdd, Nat.reduceSub, Nat.reduceMul, Nat.reduceLeDiff, Int.reduceEq, Nat.reduceEqDiff, by3, inf3, sz3, Try.underlying22]
  refine CallsH.mono (code21 a2 k3 c2 (zs x) _ J2 (by omega)) ?_
  rintro v h4 ⟨x4, a4, k4, c4, rfl, _, hc4, I4⟩
  rw [codeZ_perm hn1.1 hn1.2 hx] at I4
  have l4 := I4.len
  rw [zs_length, codeF_length, isOrd_len hx] at l4
  subst l4
  simp only [coreS, Value.cells, Value.oneCell', Nat.reduceAdd, Nat.reduceSub, Nat.reduceMul, Nat.reduceLeDiff, Int.reduceEq, Nat.reduceEqDiff, by3, inf3, sz3, Try.underlying22]
  refine CallsH.mono (code21 a3 k4 c3 (zs y) _ (I3.ext x4) (by omega)) ?_
  rintro v h5 ⟨x5, a5, k5, c5, rfl, _, hc5, I5⟩
  rw [codeZ_perm hn1.1 hn1.2 hy] at I5
  have l5 := I5.len
  rw [zs_length, codeF_length, isOrd_len hy] at l5
  subst l5
  simp only [begE_perm hn1.1 hn1.2 hx, begE_perm hn1.1 hn1.2 hy, coreS, Value.cells, Value.oneCell', Nat.reduceAdd, Nat.reduceSub, Nat.reduceMul, Nat.reduceLeDiff, Int.reduceEq, Nat.reduceEqDiff, by3, inf3, sz3, Try.underlying22]
  have I4' := I4.ext x5
  have hfx := code_fits x (List.range k5) (begF_perm hx List.nodup_range)
  have hfy := code_fits y (List.range k5) (begF_perm hy List.nodup_range)
  rw [List.length_range] at hfx hfy
  have lx : (codeF (List.range k5) x).length = k5 := by rw [codeF_length, isOrd_len hx]
  have ly : (codeF (List.range k5) y).length = k5 := by rw [codeF_length, isOrd_len hy]
  refine CallsH.mono (checkCode23 k5 a4 k5 c4 _ _ I4' (by omega)) ?_
  rintro v h6 ⟨rfl, x6⟩
  simp only [chkE_fits hn1.1 hn1.2 lx hfx, coreS, Value.cells, Value.oneCell', Nat.reduceAdd, Nat.reduceSub, Nat.reduceMul, Nat.reduceLeDiff, Int.reduceEq, Nat.reduceEqDiff, by3, inf3, sz3, Try.underlying22]
  refine CallsH.mono (checkCode24 k5 a4 k5 c4 _ _ (I4'.ext x6) (by omega)) ?_
  rintro v h7 ⟨rfl, rfl⟩
  simp only [chkE_fits hn1.1 hn1.2 lx hfx, coreS, Value.cells, Value.oneCell', Nat.reduceAdd, Nat.reduceSub, Nat.reduceMul, Nat.reduceLeDiff, Int.reduceEq, Nat.reduceEqDiff, by3, inf3, sz3, Try.underlying22]
  refine CallsH.mono (order19 k5 a4 k5 c4 _ _ (I4'.ext x6) (by omega)) ?_
  rintro v h8 ⟨x8, a8, k8, c8, rfl, k8l, c8l, I8⟩
  have ox : ordZ k5 (zs (codeF (List.range k5) x)) = zs x := by
    rw [ordZ, if_pos (chkE_fits hn1.1 hn1.2 lx hfx), Int.toNat_natCast, natL_zs, ord_code _ _ (begF_perm hx List.nodup_range)]
  have oy : ordZ k5 (zs (codeF (List.range k5) y)) = zs y := by
    rw [ordZ, if_pos (chkE_fits hn1.1 hn1.2 ly hfy), Int.toNat_natCast, natL_zs, ord_code _ _ (begF_perm hy List.nodup_range)]
  rw [ox] at I8
  have x58 := x6.trans x8
  simp only [coreS, Value.cells, Value.oneCell', Nat.reduceAdd, Nat.reduceSub, Nat.reduceMul, Nat.reduceLeDiff, Int.reduceEq, Nat.reduceEqDiff, by3, inf3, sz3, Try.underlying22]
  refine CallsH.mono (order19 k5 a5 k5 c5 _ _ (I5.ext x58) (by omega)) ?_
  rintro v h9 ⟨x9, a9, k9, c9, rfl, k9l, c9l, I9⟩
  rw [oy] at I9
  simp only [chkE_fits hn1.1 hn1.2 lx hfx, chkE_fits hn1.1 hn1.2 ly hfy, coreS, Value.cells, Value.oneCell', Nat.reduceAdd, Nat.reduceSub, Nat.reduceMul, Nat.reduceLeDiff, Int.reduceEq, Nat.reduceEqDiff, by3, inf3, sz3, Try.underlying22]
  have x59 := x58.trans x9
  refine CallsH.mono (ints25 a8 a2 _ _ _ _ _ _ _ (I8.ext x9) (J2.ext ((x4.trans x5).trans x59)) (by omega)) ?_
  rintro v h10 ⟨rfl, rfl⟩
  simp only [decide_true, Bool.not_true, coreS, Value.cells, Value.oneCell', Nat.reduceAdd, Nat.reduceSub, Nat.reduceMul, Nat.reduceLeDiff, Int.reduceEq, Nat.reduceEqDiff, by3, inf3, sz3, Try.underlying22]
  refine CallsH.mono (ints25 a9 a3 _ _ _ _ _ _ _ I9 (I3.ext ((x4.trans x5).trans x59)) (by omega)) ?_
  rintro v h11 ⟨rfl, rfl⟩
  simp only [decide_true, Bool.not_true, coreS, Value.cells, Value.oneCell', Nat.reduceAdd, Nat.reduceSub, Nat.reduceMul, Nat.reduceLeDiff, Int.reduceEq, Nat.reduceEqDiff, by3, inf3, sz3, Try.underlying22]
  have xall := (((x2.trans x3).trans x4).trans x5).trans x59
  have K2 := J2.ext ((x4.trans x5).trans x59)
  have K3 := I3.ext ((x4.trans x5).trans x59)
  have K4 := I4'.ext x59
  have K5 := I5.ext x59
  refine WP_loopI [6, 16, 95, 96, 97, 98, 99, 100, 101, 102, 103, 104, 105, 106, 107, 108, 109, 110, 111, 112, 113, 114] (fun g h' => h' = h11 ∧ ∃ i : Nat, i ≤ k5 + 1 ∧ g 16 = .int .i64 i) (fun g _ => match g 16 with | .int _ m => k5 + 1 - m.toNat | _ => 0) ⟨rfl, 0, by omega, rfl⟩ ?_
  rintro g h' ⟨rfl, i, hi, hg⟩
  simp only [hg, coreS, Value.cells, Value.oneCell', Nat.reduceAdd, Nat.reduceSub, Nat.reduceMul, Nat.reduceLeDiff, Int.reduceEq, Nat.reduceEqDiff, by3, inf3, sz3, Try.underlying22]
  refine ⟨fun hle => ?_, fun hgt => ?_⟩
  · have hik : i ≤ k5 := by omega
    refine WP_draw (by kernel_rfl) sta_eq [(0, 0), (1, 0), (2, 0), (3, 0), (4, 0), (5, 0), (6, 0), (7, 0), (8, 0), (9, 0), (10, 0), (11, 0), (12, 0), (13, 0), (14, 0)] (by kernel_rfl) rfl (by kernel_rfl) ?_
    have ei : ((i : Int) - ((0 : Nat) : Int)).toNat = i - 0 := by omega
    simp only [ei, coreS, Value.cells, Value.oneCell', Nat.reduceAdd, Nat.reduceSub, Nat.reduceMul, Nat.reduceLeDiff, Int.reduceEq, Nat.reduceEqDiff, drawS, by3, inf3, sz3, Try.underlying22]
    repeat (refine And.intro (by first | omega | (rw [inK_i64]; omega) | rfl | assumption) ?_)
    refine cQ_eq _ (ints25 _ _ _ _ _ _ _ _ _ (intsV_slice (c := c2) K2 (Nat.zero_le i) hik hc2) (intsV_slice (c := c3) K3 (Nat.zero_le i) hik hc3) (by omega)) ?_
    simp only [ei, coreS, Value.cells, Value.oneCell', Nat.reduceAdd, Nat.reduceSub, Nat.reduceMul, Nat.reduceLeDiff, Int.reduceEq, Nat.reduceEqDiff, drawS, by3, inf3, sz3, Try.underlying22]
    repeat (refine And.intro (by first | omega | (rw [inK_i64]; omega) | rfl | assumption) ?_)
    refine cQ_eq _ (ints25 _ _ _ _ _ _ _ _ _ (intsV_slice (c := c4) K4 (Nat.zero_le i) hik hc4) (intsV_slice (c := c5) K5 (Nat.zero_le i) hik hc5) (by omega)) ?_
    simp only [coreS, Value.cells, Value.oneCell', Nat.reduceAdd, Nat.reduceSub, Nat.reduceMul, Nat.reduceLeDiff, Int.reduceEq, Nat.reduceEqDiff, drawS, by3, inf3, sz3, Try.underlying22]
    refine neBoolQ sta_eq Try.underlying4 rfl rfl ?_
    have hiff := take_eq_iff (i := i) hx hy
    have hdec : decide (zs (x.take i) = zs (y.take i)) = decide (zs ((codeF (List.range k5) x).take i) = zs ((codeF (List.range k5) y).take i)) := by
      rw [decide_eq_decide]; exact hiff
    simp only [Nat.sub_zero, List.drop_zero, zs_take, hdec, BEq.rfl, hvK_eq, coreS, Value.cells, Value.oneCell', Nat.reduceAdd, Nat.reduceSub, Nat.reduceMul, Nat.reduceLeDiff, Int.reduceEq, Nat.reduceEqDiff, drawS, by3, inf3, sz3, Try.underlying22]
    refine ⟨by rw [inK_i64]; omega, roundK_mk (by kernel_rfl) ⟨rfl, i + 1, by omega, rfl⟩ ?_⟩
    show k5 + 1 - ((i : Int) + 1).toNat < k5 + 1 - (i : Int).toNat
    omega
  · refine CallsH.mono (works18 _) ?_
    rintro v h12 ⟨rfl, x12⟩
    simp only [coreS, Value.cells, Value.oneCell', Nat.reduceAdd, Nat.reduceSub, Nat.reduceMul, Nat.reduceLeDiff, Int.reduceEq, Nat.reduceEqDiff, by3, inf3, sz3, Try.underlying22]
    exact xall.trans x12
/-! turned -/
def mirC : Nat → List Nat → List Nat
  | _, [] => []
  | k, c :: cs => (k - 1 - c) :: mirC (k - 1) cs
theorem mirC_length : ∀ (cs : List Nat) (k : Nat), (mirC k cs).length = cs.length
  | [], _ => rfl
  | c :: cs, k => by simp [mirC, mirC_length cs]
theorem mirC_get : ∀ (cs : List Nat) (k i : Nat), i < cs.length → (mirC k cs).getD i 0 = k - 1 - i - cs.getD i 0
  | [], k, i, h => by simp at h
  | c :: cs, k, 0, h => by simp [mirC]
  | c :: cs, k, i + 1, h => by
    simp only [mirC, List.getD_cons_succ]
    rw [mirC_get cs (k - 1) i (by simpa using h)]
    omega
theorem turned_mirror {l : List Nat} {c : Nat} (hc : c < l.length) : turned l.reverse (l.length - 1 - c) = (turned l c).reverse := by
  unfold turned
  rw [List.reverse_append, List.drop_reverse, List.take_reverse]
  congr 1
  · congr 2; omega
  · congr 2; omega
theorem ord_mirror (f : Nat → Nat) : ∀ (cs l : List Nat), fits l.length cs → ordF (l.map f).reverse (mirC l.length cs) = (ordF l cs).map f
  | [], l, _ => rfl
  | c :: cs, l, h => by
    have hc : c < l.length := h.1
    have ih := ord_mirror f cs (turned l c) (by rw [turned_length hc]; exact h.2)
    rw [mirC, ordF, ordF, List.map_cons]
    have e1 : (l.map f).reverse.getD (l.length - 1 - c) 0 = f (l.getD c 0) := by
      rw [List.getD, List.getD, List.getElem?_reverse (by simp; omega)]
      simp only [List.length_map, List.getElem?_map]
      rw [show l.length - 1 - (l.length - 1 - c) = c by omega, List.getElem?_eq_getElem hc]
      rfl
    have e2 : turned (l.map f).reverse (l.length - 1 - c) = ((turned l c).map f).reverse := by
      have := turned_mirror (l := l.map f) (c := c) (by simpa using hc)
      rw [List.length_map] at this
      rw [this]
      simp [turned, List.map_drop, List.map_take]
    rw [e1, e2]
    congr 1
    rw [turned_length hc] at ih
    exact ih
theorem range_mirror (n : Nat) : ((List.range n).map fun k => n - 1 - k).reverse = List.range n := by
  apply List.ext_getElem
  · simp
  · intro i h1 h2
    simp at h1 h2
    simp
    omega
theorem stepC_mirror {n : Nat} {s : Int} (hn : n ≤ 12) (h1 : 1 ≤ s) (h2 : s ≤ perF n n) : stepC n ((perF n n : Int) + 1 - s) = mirC n (stepC n s) := by
  apply List.ext_getElem
  · rw [mirC_length, stepC_length, stepC_length]
  · intro i hi1 hi2
    have hi : i < n := by rwa [stepC_length] at hi1
    have a1 := stepC_get (s := (perF n n : Int) + 1 - s) hi
    have a2 := mirC_get (stepC n s) n i (by rw [stepC_length]; exact hi)
    rw [List.getD, List.getElem?_eq_getElem hi1] at a1
    rw [List.getD, List.getElem?_eq_getElem hi2, stepC_get hi] at a2
    simp only [Option.getD_some] at a1 a2
    rw [a1, a2]
    obtain ⟨q, hq⟩ := dvd_perF n n i hn (Nat.le_refl _) hi
    obtain ⟨m, hm⟩ : ∃ m, m = n - i := ⟨_, rfl⟩
    rw [← hm] at hq ⊢
    have hm1 : 1 ≤ m := by omega
    have e0 := Int.emod_add_mul_ediv (s - 1) (m : Int)
    have e1 := Int.emod_nonneg (s - 1) (show (m : Int) ≠ 0 by omega)
    have e2 := Int.emod_lt_of_pos (s - 1) (show (0 : Int) < m by omega)
    have e3 : ((perF n n : Int) + 1 - s - 1) % (m : Int) = (m : Int) - 1 - (s - 1) % (m : Int) := by
      have : (perF n n : Int) + 1 - s - 1 = ((m : Int) - 1 - (s - 1) % (m : Int)) + (m : Int) * ((q : Int) - 1 - (s - 1) / (m : Int)) := by
        rw [hq]
        push_cast
        rw [Int.mul_sub, Int.mul_sub]
        omega
      rw [this, Int.add_mul_emod_self_left, Int.emod_eq_of_lt (by omega) (by omega)]
    rw [e3]
    omega
theorem round_mirror {n : Nat} {s : Int} (hn : n ≤ 12) (h1 : 1 ≤ s) (h2 : s ≤ perF n n) : roundL n ((perF n n : Int) + 1 - s) = (roundL n s).map fun k => n - 1 - k := by
  rw [roundL, stepC_mirror hn h1 h2, roundL]
  have := ord_mirror (fun k => n - 1 - k) (stepC n s) (List.range n) (by rw [List.length_range]; exact stepC_fits n s)
  rw [List.length_range, range_mirror] at this
  exact this
theorem turnTurned14 (a b : Int) (h : Eng.Heap) (ha : 0 ≤ a ∧ a ≤ 255) (hb : 0 ≤ b ∧ b ≤ 4294967295) :
    CallsH Try.prog 14 #[.int .u8 a, .int .u32 b] h (fun v h' => v = .bool true ∧ Ext h h') := by
  refine CallsH_of_exec Try.func14 rfl bod14 ?_
  simp only [Try.ntmps14, Try.results14, coreS, stK_some, splice, Value.cells, Value.oneCell', Nat.reduceAdd, Nat.reduceSub, Nat.reduceMul, Nat.reduceLeDiff, Int.reduceEq, Nat.reduceEqDiff, agg3, by3, inf3, sz3, Try.underlying2, Try.underlying22, Try.underlying47]
  refine CallsH.mono (shops44 a _ ha.1 ha.2) ?_
  rintro v h1 ⟨rfl, rfl⟩
  obtain ⟨n, hn⟩ : ∃ n : Nat, 1 + a % 12 = n := ⟨(1 + a % 12).toNat, by omega⟩
  rw [hn]
  have hn1 : 1 ≤ n ∧ n ≤ 12 := by omega
  simp only [coreS, Value.cells, Value.oneCell', Nat.reduceAdd, Nat.reduceSub, Nat.reduceMul, Nat.reduceLeDiff, Int.reduceEq, Nat.reduceEqDiff, agg3, by3, inf3, sz3, Try.underlying2, Try.underlying22, Try.underlying47]
  refine CallsH.mono (period47 n n _ hn1.2 (Nat.le_refl _)) ?_
  rintro v h2 ⟨rfl, rfl⟩
  have hp := perF_le n n hn1.2 (Nat.le_refl _)
  obtain ⟨s, hs⟩ : ∃ s : Int, s = b % (perF n n : Int) + 1 := ⟨_, rfl⟩
  have hs0 := Int.emod_nonneg b (show (perF n n : Int) ≠ 0 by omega)
  have hs1 := Int.emod_lt_of_pos b (show (0 : Int) < perF n n by omega)
  have e1 : b.tmod (perF n n : Int) = b % (perF n n : Int) := Int.tmod_eq_emod_of_nonneg hb.1
  simp only [e1, coreS, Value.cells, Value.oneCell', Nat.reduceAdd, Nat.reduceSub, Nat.reduceMul, Nat.reduceLeDiff, Int.reduceEq, Nat.reduceEqDiff, agg3, by3, inf3, sz3, Try.underlying2, Try.underlying22, Try.underlying47]
  rw [← hs]
  repeat (refine And.intro (by first | omega | (rw [inK_i64]; omega) | rfl | assumption) ?_)
  have o1 : openE (n : Int) [s] = 0 := openE_ok (by omega) (by omega) (by omega) (by omega)
  have o2 : openE (n : Int) [(perF n n : Int) + 1 - s] = 0 := openE_ok (by omega) (by omega) (by omega) (by omega)
  refine CallsH.mono (roundP26 n s _) ?_
  rintro v h3 ⟨x3, a3, m3, c3, rfl, k3, l3, I3⟩
  rw [roundZ_ok o1, Int.toNat_natCast] at I3
  have hl3 := I3.len
  rw [zs_length, roundL_length] at hl3
  subst hl3
  simp only [coreS, Value.cells, Value.oneCell', Nat.reduceAdd, Nat.reduceSub, Nat.reduceMul, Nat.reduceLeDiff, Int.reduceEq, Nat.reduceEqDiff, agg3, by3, inf3, sz3, Try.underlying2, Try.underlying22, Try.underlying47]
  repeat (refine And.intro (by first | omega | (rw [inK_i64]; omega) | rfl | assumption) ?_)
  refine CallsH.mono (roundP26 m3 ((perF m3 m3 : Int) + 1 - s) _) ?_
  rintro v h4 ⟨x4, a4, m4, c4, rfl, k4, l4, I4⟩
  rw [roundZ_ok o2, Int.toNat_natCast, round_mirror hn1.2 (by omega) (by omega)] at I4
  have hl4 := I4.len
  rw [zs_length, List.length_map, roundL_length] at hl4
  subst hl4
  simp only [o1, o2, coreS, Value.cells, Value.oneCell', Nat.reduceAdd, Nat.reduceSub, Nat.reduceMul, Nat.reduceLeDiff, Int.reduceEq, Nat.reduceEqDiff, agg3, by3, inf3, sz3, Try.underlying2, Try.underlying22, Try.underlying47]
  have p1 := round_perm m4 s
  have p2 := round_perm m4 ((perF m4 m4 : Int) + 1 - s)
  rw [round_mirror hn1.2 (by omega) (by omega)] at p2
  refine CallsH.mono (isOrder46 _ m4 _ _ _ (I3.ext x4) (by omega) l3 (isOrd_perm p1)) ?_
  rintro v h5 ⟨rfl, rfl⟩
  simp only [coreS, Value.cells, Value.oneCell', Nat.reduceAdd, Nat.reduceSub, Nat.reduceMul, Nat.reduceLeDiff, Int.reduceEq, Nat.reduceEqDiff, agg3, by3, inf3, sz3, Try.underlying2, Try.underlying22, Try.underlying47]
  refine CallsH.mono (isOrder46 _ m4 _ _ _ I4 (by omega) l4 (isOrd_perm p2)) ?_
  rintro v h6 ⟨rfl, rfl⟩
  simp only [coreS, Value.cells, Value.oneCell', Nat.reduceAdd, Nat.reduceSub, Nat.reduceMul, Nat.reduceLeDiff, Int.reduceEq, Nat.reduceEqDiff, agg3, by3, inf3, sz3, Try.underlying2, Try.underlying22, Try.underlying47]
  refine CallsH.mono (code21 a3 m4 c3 _ _ (I3.ext x4) (by omega)) ?_
  rintro v h7 ⟨x7, a7, k7, c7, rfl, _, hc7, I7⟩
  have ec1 : codeF (List.range m4) (roundL m4 s) = stepC m4 s := code_ord _ _ List.nodup_range (by rw [List.length_range]; exact stepC_fits m4 s)
  have ec2 : codeF (List.range m4) ((roundL m4 s).map fun k => m4 - 1 - k) = mirC m4 (stepC m4 s) := by
    rw [← round_mirror hn1.2 (by omega) (by omega), ← stepC_mirror hn1.2 (by omega) (by omega)]
    exact code_ord _ _ List.nodup_range (by rw [List.length_range]; exact stepC_fits m4 _)
  rw [codeZ_perm hn1.1 hn1.2 p1, ec1] at I7
  have l7 := I7.len
  rw [zs_length, stepC_length] at l7
  subst l7
  simp only [begE_perm hn1.1 hn1.2 p1, coreS, Value.cells, Value.oneCell', Nat.reduceAdd, Nat.reduceSub, Nat.reduceMul, Nat.reduceLeDiff, Int.reduceEq, Nat.reduceEqDiff, agg3, by3, inf3, sz3, Try.underlying2, Try.underlying22, Try.underlying47]
  refine CallsH.mono (code21 a4 k7 c4 _ _ (I4.ext x7) (by omega)) ?_
  rintro v h8 ⟨x8, a8, k8, c8, rfl, _, hc8, I8⟩
  rw [codeZ_perm hn1.1 hn1.2 p2, ec2] at I8
  have l8 := I8.len
  rw [zs_length, mirC_length, stepC_length] at l8
  subst l8
  simp only [begE_perm hn1.1 hn1.2 p1, begE_perm hn1.1 hn1.2 p2, coreS, Value.cells, Value.oneCell', Nat.reduceAdd, Nat.reduceSub, Nat.reduceMul, Nat.reduceLeDiff, Int.reduceEq, Nat.reduceEqDiff, agg3, by3, inf3, sz3, Try.underlying2, Try.underlying22, Try.underlying47]
  have J3 := I3.ext ((x4.trans x7).trans x8)
  have J4 := I4.ext (x7.trans x8)
  have J7 := I7.ext x8
  have xall := ((x3.trans x4).trans x7).trans x8
  refine WP_loopI [4, 14, 86, 87, 88, 89, 90, 91, 92, 93, 94, 95, 96, 97, 98, 99, 100, 101, 102, 103, 104, 105, 106, 107, 108, 109, 110, 111, 112, 113, 114, 115, 116, 117, 118, 119, 120, 121, 122, 123, 124, 125] (fun g h' => h' = h8 ∧ ∃ i : Nat, i ≤ k8 ∧ g 14 = .int .i64 i) (fun g _ => match g 14 with | .int _ m => k8 - m.toNat | _ => 0) ⟨rfl, 0, by omega, rfl⟩ ?_
  rintro g h' ⟨rfl, i, hi, hg⟩
  simp only [hg, coreS, Value.cells, Value.oneCell', Nat.reduceAdd, Nat.reduceSub, Nat.reduceMul, Nat.reduceLeDiff, Int.reduceEq, Nat.reduceEqDiff, agg3, by3, inf3, sz3, Try.underlying2, Try.underlying22, Try.underlying47]
  refine ⟨fun hlt => ?_, fun hge => ?_⟩
  · have hik : i < k8 := by omega
    have iL : i < (roundL k8 s).length := by rw [roundL_length]; exact hik
    have iS : i < (stepC k8 s).length := by rw [stepC_length]; exact hik
    have hLk : (roundL k8 s).getD i 0 < k8 := by
      have hm : (roundL k8 s).getD i 0 ∈ roundL k8 s := by rw [List.getD, List.getElem?_eq_getElem iL]; exact List.getElem_mem iL
      exact List.mem_range.1 (p1.mem_iff.1 hm)
    have hSk := fits_get _ _ _ (stepC_fits k8 s) iS
    have fb : (zs ((roundL k8 s).map fun k => k8 - 1 - k)).getD i 0 = (k8 : Int) - 1 - (zs (roundL k8 s)).getD i 0 := by
      rw [zs_get, zs_get]
      have : ((roundL k8 s).map fun k => k8 - 1 - k).getD i 0 = k8 - 1 - (roundL k8 s).getD i 0 := by
        simp only [List.getD, List.getElem?_map, List.getElem?_eq_getElem iL]
        rfl
      rw [this]
      omega
    have fd : (zs (mirC k8 (stepC k8 s))).getD i 0 = (k8 : Int) - 1 - i - (zs (stepC k8 s)).getD i 0 := by
      rw [zs_get, zs_get, mirC_get _ _ _ iS]
      omega
    have fc : ¬ ((zs (stepC k8 s)).getD i 0 < 0) := by rw [zs_get]; omega
    have i3 : i < (zs (roundL k8 s)).length := by rw [zs_length]; exact iL
    have i4 : i < (zs ((roundL k8 s).map fun k => k8 - 1 - k)).length := by rw [zs_length, List.length_map]; exact iL
    have i7 : i < (zs (stepC k8 s)).length := by rw [zs_length]; exact iS
    have i8 : i < (zs (mirC k8 (stepC k8 s))).length := by rw [zs_length, mirC_length]; exact iS
    have z3 := zs_get (roundL k8 s) i
    have z7 := zs_get (stepC k8 s) i
    refine WP_draw (by kernel_rfl) sta_eq [(0, 0), (1, 0), (2, 0), (3, 0), (4, 0), (5, 0), (6, 0), (7, 0), (8, 0), (9, 0), (10, 0), (11, 0), (12, 0), (13, 0), (14, 0), (15, 0), (16, 0), (17, 0), (18, 0), (19, 0), (20, 0), (21, 0), (22, 0), (23, 0), (24, 0), (25, 0), (26, 0), (27, 0), (28, 0), (29, 0), (30, 0), (31, 0), (32, 0), (33, 0), (34, 0)] (by kernel_rfl) rfl (by kernel_rfl) ?_
    simp only [J3.cell i3, J4.cell i4, J7.cell i7, I8.cell i8, fb, fd, fc, decide_true, decide_false, Bool.not_true, hvK_eq, coreS, Value.cells, Value.oneCell', Nat.reduceAdd, Nat.reduceSub, Nat.reduceMul, Nat.reduceLeDiff, Int.reduceEq, Nat.reduceEqDiff, drawS, agg3, by3, inf3, sz3, Try.underlying2, Try.underlying22, Try.underlying47]
    repeat (refine And.intro (by first | omega | (rw [inK_i64]; omega) | rfl | assumption | (exact J3.isSome (by omega)) | (exact J4.isSome (by omega)) | (exact J7.isSome (by omega)) | (exact I8.isSome (by omega)) | (rw [inK_i64, z3]; omega) | (rw [inK_i64, z7]; omega)) ?_)
    refine roundK_mk (by kernel_rfl) ⟨rfl, i + 1, by omega, rfl⟩ ?_
    show k8 - ((i : Int) + 1).toNat < k8 - (i : Int).toNat
    omega
  · refine CallsH.mono (works18 _) ?_
    rintro v h12 ⟨rfl, x12⟩
    simp only [coreS, Value.cells, Value.oneCell', Nat.reduceAdd, Nat.reduceSub, Nat.reduceMul, Nat.reduceLeDiff, Int.reduceEq, Nat.reduceEqDiff, agg3, by3, inf3, sz3, Try.underlying2, Try.underlying22, Try.underlying47]
    exact xall.trans x12
end Go.Proofs.Ytoediaepoddonaa
