/- Walks: TurnOrders, TurnPeriods. -/
import Derived.Test.YtoediaepoddonaaT17
namespace Go.Proofs.Ytoediaepoddonaa
open Go Go.Proofs Go.Eng Go.Run Tab
set_option maxRecDepth 100000
set_option linter.unusedSimpArgs false
set_option linter.unusedVariables false
set_option maxHeartbeats 1000000
theorem great17 (a : Option Addr) (n c : Nat) (h : Eng.Heap) : CallsH Try.prog 17 #[.slice a n c] h (fun v h' => v = .bool (decide ((20 : Int) < n)) ∧ h' = h) := by
  refine CallsH_of_exec Try.func17 rfl bod17 ?_
  simp only [Try.ntmps17, Try.results17, coreS, stK_some, splice, Value.cells, Value.oneCell', Nat.reduceAdd, Nat.reduceSub, Nat.reduceMul, Nat.reduceLeDiff, Int.reduceEq, Nat.reduceEqDiff, Try.underlying22]
theorem turnOrders3 (shops : Int) (a1 : Option Addr) (n1 c1 : Nat) (xs1 : List Int) (a2 : Option Addr) (n2 c2 : Nat) (xs2 : List Int) (h : Eng.Heap) (I1 : IntsV h a1 n1 xs1) (hc1 : n1 ≤ c1) (hm1 : c1 ≤ maxLen) (I2 : IntsV h a2 n2 xs2) (hc2 : n2 ≤ c2) (hm2 : c2 ≤ maxLen) :
    CallsH Try.prog 3 #[.int .i64 shops, .slice a1 n1 c1, .slice a2 n2 c2] h (fun v h' => v = .bool true ∧ Ext h h') := by
  refine CallsH_of_exec Try.func3 rfl bod3 ?_
  simp only [Try.ntmps3, Try.results3, coreS, stK_some, splice, Value.cells, Value.oneCell', Nat.reduceAdd, Nat.reduceSub, Nat.reduceMul, Nat.reduceLeDiff, Int.reduceEq, Nat.reduceEqDiff]
  refine CallsH.mono (great17 a1 n1 c1 h) ?_
  rintro v h' ⟨rfl, rfl⟩
  simp only [coreS, Value.cells, Value.oneCell', Nat.reduceAdd, Nat.reduceSub, Nat.reduceMul, Nat.reduceLeDiff, Int.reduceEq, Nat.reduceEqDiff]
  refine ⟨fun hg => ?_, fun hg => ?_⟩
  · refine CallsH.mono (works18 _) ?_
    rintro v h2 ⟨rfl, x2⟩
    simp only [coreS, Value.cells, Value.oneCell', Nat.reduceAdd, Nat.reduceSub, Nat.reduceMul, Nat.reduceLeDiff, Int.reduceEq, Nat.reduceEqDiff]
    exact x2
  refine CallsH.mono (great17 a2 n2 c2 _) ?_
  rintro v h2 ⟨rfl, rfl⟩
  simp only [coreS, Value.cells, Value.oneCell', Nat.reduceAdd, Nat.reduceSub, Nat.reduceMul, Nat.reduceLeDiff, Int.reduceEq, Nat.reduceEqDiff]
  refine ⟨fun hg2 => ?_, fun hg2 => ?_⟩
  · refine CallsH.mono (works18 _) ?_
    rintro v h3 ⟨rfl, x2⟩
    simp only [coreS, Value.cells, Value.oneCell', Nat.reduceAdd, Nat.reduceSub, Nat.reduceMul, Nat.reduceLeDiff, Int.reduceEq, Nat.reduceEqDiff]
    exact x2
  refine CallsH.mono (order19 shops a1 n1 c1 xs1 _ I1 (by omega)) ?_
  rintro v h3 ⟨x3, b1, m1, d1, rfl, k1, l1, J1⟩
  simp only [coreS, Value.cells, Value.oneCell', Nat.reduceAdd, Nat.reduceSub, Nat.reduceMul, Nat.reduceLeDiff, Int.reduceEq, Nat.reduceEqDiff]
  refine CallsH.mono (orderR20 shops a1 n1 c1 xs1 _ (I1.ext x3) (by omega)) ?_
  rintro v h4 ⟨x4, b2, m2, d2, rfl, k2, l2, J2⟩
  have x34 := x3.trans x4
  simp only [coreS, Value.cells, Value.oneCell', Nat.reduceAdd, Nat.reduceSub, Nat.reduceMul, Nat.reduceLeDiff, Int.reduceEq, Nat.reduceEqDiff]
  refine CallsH.mono (code21 a2 n2 c2 xs2 _ (I2.ext x34) (by omega)) ?_
  rintro v h5 ⟨x5, b3, m3, d3, rfl, k3, l3, J3⟩
  have x35 := x34.trans x5
  simp only [coreS, Value.cells, Value.oneCell', Nat.reduceAdd, Nat.reduceSub, Nat.reduceMul, Nat.reduceLeDiff, Int.reduceEq, Nat.reduceEqDiff]
  refine CallsH.mono (codeR22 a2 n2 c2 xs2 _ (I2.ext x35) hc2 (by omega)) ?_
  rintro v h6 ⟨x6, b4, m4, d4, rfl, k4, l4, J4⟩
  have x36 := x35.trans x6
  simp only [coreS, Value.cells, Value.oneCell', Nat.reduceAdd, Nat.reduceSub, Nat.reduceMul, Nat.reduceLeDiff, Int.reduceEq, Nat.reduceEqDiff]
  refine CallsH.mono (checkCode23 shops a1 n1 c1 xs1 _ (I1.ext x36) (by omega)) ?_
  rintro v h7 ⟨rfl, x7⟩
  have x37 := x36.trans x7
  simp only [coreS, Value.cells, Value.oneCell', Nat.reduceAdd, Nat.reduceSub, Nat.reduceMul, Nat.reduceLeDiff, Int.reduceEq, Nat.reduceEqDiff]
  refine CallsH.mono (checkCode24 shops a1 n1 c1 xs1 _ (I1.ext x37) (by omega)) ?_
  rintro v h8 ⟨rfl, rfl⟩
  simp only [decide_true, coreS, Value.cells, Value.oneCell', Nat.reduceAdd, Nat.reduceSub, Nat.reduceMul, Nat.reduceLeDiff, Int.reduceEq, Nat.reduceEqDiff]
  refine CallsH.mono (ints25 _ _ _ _ _ _ _ _ _ (J1.ext (((x4.trans x5).trans x6).trans x7)) (J2.ext ((x5.trans x6).trans x7)) (by omega)) ?_
  rintro v h9 ⟨rfl, rfl⟩
  simp only [decide_true, coreS, Value.cells, Value.oneCell', Nat.reduceAdd, Nat.reduceSub, Nat.reduceMul, Nat.reduceLeDiff, Int.reduceEq, Nat.reduceEqDiff]
  refine CallsH.mono (ints25 _ _ _ _ _ _ _ _ _ (J3.ext (x6.trans x7)) (J4.ext x7) (by omega)) ?_
  rintro v h9 ⟨rfl, rfl⟩
  simp only [decide_true, coreS, Value.cells, Value.oneCell', Nat.reduceAdd, Nat.reduceSub, Nat.reduceMul, Nat.reduceLeDiff, Int.reduceEq, Nat.reduceEqDiff]
  refine CallsH.mono (works18 _) ?_
  rintro v h10 ⟨rfl, x10⟩
  simp only [coreS, Value.cells, Value.oneCell', Nat.reduceAdd, Nat.reduceSub, Nat.reduceMul, Nat.reduceLeDiff, Int.reduceEq, Nat.reduceEqDiff]
  exact x37.trans x10
theorem zs_inj {a b : List Nat} (h : zs a = zs b) : a = b := by
  have : (zs a).map Int.toNat = (zs b).map Int.toNat := by rw [h]
  simpa [zs, List.map_map, Function.comp_def] using this
theorem natL_zs (l : List Nat) : natL (zs l) = l := by simp [natL, zs, List.map_map, Function.comp_def]
theorem begE_perm {n : Nat} {l : List Nat} (h1 : 1 ≤ n) (h2 : n ≤ 12) (hp : l.Perm (List.range n)) : begE n (zs l) = 0 := by
  have hl : (zs l).length = n := by rw [zs_length, hp.length_eq, List.length_range]
  have hin : inB 0 ((n : Int) - 1) (zs l) = true := by
    simp only [inB, List.all_eq_true, Bool.and_eq_true, decide_eq_true_eq]
    intro x hx
    simp only [zs, List.mem_map] at hx
    obtain ⟨y, hy, rfl⟩ := hx
    have := List.mem_range.1 (hp.mem_iff.1 hy)
    omega
  have hnd : (zs l).Nodup := by
    refine List.pairwise_map.2 ((hp.nodup_iff.2 List.nodup_range).imp fun h1 h2 => h1 (by omega))
  rw [begE, if_pos (by omega), if_neg (by omega), if_pos hin, if_pos hnd]
/-- What Find answers for the order by a step. -/
theorem find_round {n : Nat} {s : Int} (h1 : 1 ≤ n) (h2 : n ≤ 12) (hs : 1 ≤ s) : ∃ r : Nat, findR n (zs (roundL n s)) = ((r : Int) + 1, ((perF n n : Nat) : Int), 0) ∧ r < perF n n ∧ (s - 1).toNat % perF n n = r := by
  have hp := round_perm n s
  have hb := begE_perm h1 h2 hp
  have hbf := begF_perm hp List.nodup_range
  have hc : codeF (List.range n) (roundL n s) = stepC n s := code_ord _ _ List.nodup_range (by rw [List.length_range]; exact stepC_fits n s)
  have hm : makesP n (stepC n s) (s - 1).toNat := fun k hk => by
    rw [stepC_length] at hk
    rw [stepC_get hk]
    have e : s - 1 = ((s - 1).toNat : Int) := by omega
    conv => rhs; rw [e]
    have : (((s - 1).toNat : Int) % ((n - k : Nat) : Int)) = (((s - 1).toNat % (n - k) : Nat) : Int) := rfl
    rw [this, Int.toNat_natCast]
  have hall := find_some h2 (by rw [stepC_length]; omega) (stepC_fits n s)
  rw [stepC_length] at hall
  cases hq : findF n (stepC n s) with
  | none =>
    obtain ⟨i, hi, j, hj, hcl⟩ := hall.2 hq
    exact absurd hcl (makes_clash hm hj (by rw [stepC_length]; exact hi))
  | some q =>
    obtain ⟨q1, q2, q3⟩ := hall.1 q hq
    have hmq : makesP n (stepC n s) q.1 := fun j hj => q3 j (by rw [stepC_length] at hj; exact hj)
    have := (makes_iff h2 (by rw [stepC_length]; omega) hmq (s - 1).toNat).1 hm
    rw [stepC_length] at this
    refine ⟨q.1, ?_, by omega, by rw [this, Nat.mod_eq_of_lt (by omega)]⟩
    unfold findR
    rw [if_pos hb, Int.toNat_natCast, natL_zs, hc, hq]
    simp only [q1]
/-- Two steps make one order just if they are one by the period. -/
theorem round_eq_iff {n : Nat} {a b : Int} (h2 : n ≤ 12) (ha : 1 ≤ a) (hb : 1 ≤ b) : roundL n a = roundL n b ↔ (a - b) % (perF n n : Int) = 0 := by
  have step : ∀ s : Int, 1 ≤ s → makesP n (stepC n s) (s - 1).toNat := fun s hs k hk => by
    rw [stepC_length] at hk
    rw [stepC_get hk]
    have e : s - 1 = ((s - 1).toNat : Int) := by omega
    conv => rhs; rw [e]
    have : (((s - 1).toNat : Int) % ((n - k : Nat) : Int)) = (((s - 1).toNat % (n - k) : Nat) : Int) := rfl
    rw [this, Int.toNat_natCast]
  have key : roundL n a = roundL n b ↔ stepC n a = stepC n b := by
    constructor
    · intro h
      have h1 : codeF (List.range n) (roundL n a) = stepC n a := code_ord _ _ List.nodup_range (by rw [List.length_range]; exact stepC_fits n a)
      have h2 : codeF (List.range n) (roundL n b) = stepC n b := code_ord _ _ List.nodup_range (by rw [List.length_range]; exact stepC_fits n b)
      rw [← h1, ← h2, h]
    · intro h; rw [roundL, roundL, h]
  have hp := perF_le n n h2 (Nat.le_refl n)
  rw [key]
  have e1 : (a - b) % (perF n n : Int) = 0 ↔ (a - 1).toNat % perF n n = (b - 1).toNat % perF n n := by
    rw [← Int.emod_eq_emod_iff_emod_sub_eq_zero]
    have ea : a = ((a - 1).toNat : Int) + 1 := by omega
    have eb : b = ((b - 1).toNat : Int) + 1 := by omega
    constructor
    · intro h
      have h3 : (a - 1) % (perF n n : Int) = (b - 1) % (perF n n : Int) := by rw [Int.sub_emod, h, ← Int.sub_emod]
      rw [show a - 1 = ((a - 1).toNat : Int) by omega, show b - 1 = ((b - 1).toNat : Int) by omega] at h3
      exact_mod_cast h3
    · intro h
      have h3 : (((a - 1).toNat : Nat) : Int) % (perF n n : Int) = (((b - 1).toNat : Nat) : Int) % (perF n n : Int) := by exact_mod_cast h
      rw [ea, eb, Int.add_emod, h3, ← Int.add_emod]
  rw [e1]
  constructor
  · intro h
    have := (makes_iff h2 (by rw [stepC_length]; omega) (step a ha) (b - 1).toNat).1 (by rw [h]; exact step b hb)
    rw [stepC_length] at this
    exact this.symm
  · intro h
    have := (makes_iff h2 (by rw [stepC_length]; omega) (step a ha) (b - 1).toNat).2 (by rw [stepC_length]; exact h.symm)
    have h4 := step b hb
    apply List.ext_getElem (by rw [stepC_length, stepC_length])
    intro k hk1 hk2
    have h5 := this k hk1
    have h6 := h4 k hk2
    rw [List.getD, List.getElem?_eq_getElem hk1] at h5
    rw [List.getD, List.getElem?_eq_getElem hk2] at h6
    exact h5.symm.trans h6
end Go.Proofs.Ytoediaepoddonaa
