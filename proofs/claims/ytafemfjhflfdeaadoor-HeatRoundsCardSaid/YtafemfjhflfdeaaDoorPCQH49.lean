/- Walks: SureWaits, SurelyError. -/
import Derived.Test.YtafemfjhflfdeaaDoorPC12
namespace Go.Eng
open Go
/-- A call in a plain region behind which the ways meet again. -/
theorem call_cut {P : Program} {f : FuncId} {args : Array Value} {all rest : List Oper} {dst : Option Tmp} {n : Env → List Deferred → Eng.Heap → Prop} {k : Cont} {e : Env} {d : List Deferred} {h : Eng.Heap} (ws : List Nat) (I : (Nat → Value) → Eng.Heap → Prop)
    (H : CallsH P f args h (setK P all rest (thenK (midK e d ws I) k) dst e d)) (Hn : ∀ g h', I g h' → n (mkE e ws g) d h') : CallsH P f args h (setK P all rest (thenK n k) dst e d) := by
  refine CallsH.mono H fun v h' hv => ?_
  unfold setK at hv ⊢
  exact execR_mono (thenK_mono (fun e' d' h' hmid => by
    unfold midK at hmid
    obtain ⟨h1, h2, h3⟩ := hmid
    subst h1
    rw [h2]
    exact Hn _ _ h3) (fun _ _ _ _ h => h)) _ _ _ _ hv
end Go.Eng
namespace Go.Proofs.YtafemfjhflfdeaaDoor
open Go Go.Proofs Go.Eng Go.Run Tab
set_option maxRecDepth 100000
set_option linter.unusedSimpArgs false
set_option linter.unusedVariables false
set_option linter.defProp false
set_option maxHeartbeats 16000000
set_option linter.defProp false
def H49Fs46 := (And.intro (And.intro (And.intro (And.intro @agg2 @agg22) (And.intro @agg24 @agg3)) (And.intro (And.intro @by3 @fo24_0) (And.intro @fo24_1 (And.intro @fo54_0 @fo54_1)))) (And.intro (And.intro (And.intro @inf2 @inf22) (And.intro @inf24 (And.intro @inf3 @sz2))) (And.intro (And.intro @sz22 @sz24) (And.intro @sz3 (And.intro @zero3 @Tryd.underlying22)))))
theorem sure46 (m : MV) (gd : m.Good) (hn1 : 1 ≤ m.casts.length) (hn16 : m.casts.length ≤ 16) (lo hi : Nat) (hlo : lo < m.casts.length) (hhi : hi < m.casts.length) (cs : Nat) (hcs : cs ≤ 1000) (h : Eng.Heap) (hm : m.ok h) :
    CallsH Tryd.prog 46 #[m.val, rgV lo hi, .int .i64 cs] h (fun v h' => v = .int .i64 (sqV m cs lo hi) ∧ Ext h h') := by
  obtain ⟨n, hn⟩ : ∃ n, m.casts.length = n := ⟨_, rfl⟩
  have hwl := gd.wl
  have hc := hm.c
  have hw := hm.w
  have gc := gd.c
  have gw := gd.w
  have hnn : m.ov.n = n := hn
  have hval : Value.agg #[.slice m.a n m.ca, .slice m.b m.waits.length m.cb, .int .i64 m.lo, .int .i64 m.hi] = m.val := by rw [← hn]
  have sqat := fun k x a b (hb : b < n) (h : a * n + b < x) => sqL_at m k x a b (by rw [hn]; exact hb) (by rw [hn]; exact h)
  have sqlt := fun k x r a b v (hb : b < n) (h : a * n + b < x) => sq_lt m k x r a b v (by rw [hn]; exact hb) (by rw [hn]; exact h)
  have sqs := fun k a b (hb : b < n) => sqL_succ m k a b (by rw [hn]; exact hb)
  simp only [hn] at sqat sqlt sqs
  rw [hn] at hwl gc gw hn1 hn16 hlo hhi
  obtain ⟨N, hN, eN, lN⟩ := prodA n n 16 16 hn16 hn16
  have hN1 : 1 ≤ N := by
    have : 1 * 1 ≤ n * n := Nat.mul_le_mul hn1 hn1
    omega
  (refine CallsH_of_exec Tryd.func46 rfl bod46 ?_; simp only [Tryd.ntmps46, Tryd.results46, coreS, stK_some, splice, Value.cells, Value.oneCell', Nat.reduceAdd, Nat.reduceSub, Nat.reduceMul, Nat.reduceLeDiff, Int.reduceEq, Nat.reduceEqDiff, H49Fs46])
  simp only [hn]
  simp only [hn, eN, show ¬ (h.size = h.size + 1) by omega, push_get, push_size, if_true, if_false, splice, coreS, Value.cells, Value.oneCell', Nat.reduceAdd, Nat.reduceSub, Nat.reduceMul, Nat.reduceLeDiff, Int.reduceEq, Nat.reduceEqDiff, H49Fs46]
  repeat (refine And.intro (by first | omega | (rw [inK_i64]; omega) | rfl | assumption | decide) ?_)
  refine WP_loopI [8, 9, 10, 11, 12, 13, 14, 22, 23, 24, 25, 26, 27, 28, 29, 30, 31, 32, 33, 34, 35, 36, 37, 38, 39, 40, 41, 42, 43, 44, 45, 46, 47, 48, 49, 50, 51, 52, 53, 54, 55, 56, 57, 58, 59, 60, 61, 62, 63, 64, 65, 66, 67, 68, 69, 70, 71, 72, 73, 74, 75, 76, 77, 78, 79, 80, 81, 82, 83, 84, 85, 86, 87, 88, 89, 90, 91, 92, 93, 94, 95, 96, 97, 98, 99, 100, 101, 102, 103, 104, 105, 106, 107, 108, 109, 110, 111, 112, 113, 114, 115, 116, 117, 118, 119, 120, 121, 122, 123, 124, 125, 126, 127, 128, 129, 130, 131] (fun g h' => ∃ k bo : Nat, k ≤ cs ∧ g 9 = .int .i64 k ∧ g 8 = .slice (some ⟨bo, 0, none⟩) N N ∧
      h'[bo]? = some (.cells (ints (sqL m k N)).toArray 3) ∧ h.size + 1 < bo ∧ Ext h h' ∧
      h'[h.size]? = some (.cells #[.slice m.a n m.ca, .slice m.b m.waits.length m.cb, .int .i64 m.lo, .int .i64 m.hi] 24) ∧ h'[h.size + 1]? = some (.cells #[.int .i64 (lo : Int), .int .i64 (hi : Int)] 54)) (fun g _ => match g 9 with | .int _ n => cs - n.toNat | _ => 0) ?_ ?_
  · refine ⟨0, h.size + 2, by omega, rfl, rfl, ?_, by omega, (((Ext.refl h).push _).push _).push _, push_old pn0, push_old pn1⟩
    rw [Array.getElem?_push, if_pos (by simp)]
    simp only [sqL_zero, ints, List.flatten_replicate_singleton, List.map_replicate]
  rintro g h' ⟨k, bo, hk, hg9, hg8, hbo, hlt, hx, hbx, hbr⟩
  by_cases hkc : k < cs
  case neg =>
    have hke : k = cs := by omega
    subst hke
    obtain ⟨pl, hpl, epl, lpl⟩ := prodA lo n 16 16 (by omega) hn16
    have hidx := idx_lt hlo hhi
    have eix : (pl : Int) + (hi : Int) = ((lo * n + hi : Nat) : Int) := by omega
    have hat := sqat k N lo hi hhi (by omega)
    have l0 : ¬ ((k : Int) < (k : Int)) := by omega
    simp only [hg9, hg8, l0, hbr, epl, eix, hbo, hat, Int.toNat_natCast, decide_false, splice, coreS, Value.cells, Value.oneCell', Nat.reduceAdd, Nat.reduceSub, Nat.reduceMul, Nat.reduceLeDiff, Int.reduceEq, Nat.reduceEqDiff, H49Fs46]
    repeat (refine And.intro (by first | omega | (rw [inK_i64]; omega) | rfl | assumption | decide) ?_)
    exact hx
  have l0 : (k : Int) < (cs : Int) := by omega
  simp only [hg9, hg8, l0, eN, decide_true, splice, coreS, Value.cells, Value.oneCell', Nat.reduceAdd, Nat.reduceSub, Nat.reduceMul, Nat.reduceLeDiff, Int.reduceEq, Nat.reduceEqDiff, H49Fs46]
  repeat (refine And.intro (by first | omega | (rw [inK_i64]; omega) | rfl | assumption | decide) ?_)
  have hzb := lt_of_get hbx
  have hzo := lt_of_get hbo
  refine WP_loopI [11, 12, 13, 14, 31, 32, 33, 34, 35, 36, 37, 38, 39, 40, 41, 42, 43, 44, 45, 46, 47, 48, 49, 50, 51, 52, 53, 54, 55, 56, 57, 58, 59, 60, 61, 62, 63, 64, 65, 66, 67, 68, 69, 70, 71, 72, 73, 74, 75, 76, 77, 78, 79, 80, 81, 82, 83, 84, 85, 86, 87, 88, 89, 90, 91, 92, 93, 94, 95, 96, 97, 98, 99, 100, 101, 102, 103, 104, 105, 106, 107, 108, 109, 110, 111, 112, 113, 114, 115, 116, 117, 118, 119, 120, 121, 122, 123, 124, 125, 126, 127, 128, 129, 130] (fun g2 h2 => ∃ a : Nat, a ≤ n ∧ g2 11 = .int .i64 a ∧
      St h2 h.size [.slice m.a n m.ca, .slice m.b m.waits.length m.cb, .int .i64 m.lo, .int .i64 m.hi] bo (sqL m k N) h'.size (sqL m (k + 1) (a * n) ++ List.replicate (N - a * n) 0) ∧ Ext h' h2) (fun g2 _ => match g2 11 with | .int _ q => n - q.toNat | _ => 0) ?_ ?_
  · refine ⟨0, by omega, rfl, ⟨((Ext.refl _).push _).get hbx, ((Ext.refl _).push _).get hbo, ?_, by omega, by omega⟩, (Ext.refl _).push _⟩
    simp only [push_get, if_true, sqL, Nat.zero_mul, List.range_zero, List.map_nil, List.nil_append, Nat.sub_zero, ints, List.flatten_replicate_singleton, List.map_replicate]
  rintro g2 h2 ⟨a, han, hg11, hst, hx2⟩
  by_cases hal : a < n
  case neg =>
    have l1 : ¬ ((a : Int) < (n : Int)) := by omega
    obtain rfl : a = n := by omega
    simp only [hg11, l1, decide_false, splice, coreS, Value.cells, Value.oneCell', Nat.reduceAdd, Nat.reduceSub, Nat.reduceMul, Nat.reduceLeDiff, Int.reduceEq, Nat.reduceEqDiff, H49Fs46]
    have hst2 := hst.n
    rw [hN, Nat.sub_self, List.replicate_zero, List.append_nil] at hst2
    refine ⟨by rw [inK_i64]; omega, roundK_mk (by kernel_rfl) ⟨k + 1, h'.size, by omega, rfl, rfl, hst2, by have := hx.size; omega, hx.trans hx2, hst.m, hx2.get hbr⟩ ?_⟩
    show cs - ((k : Int) + 1).toNat < cs - (k : Int).toNat
    omega
  have l1 : (a : Int) < (n : Int) := by omega
  simp only [hg11, l1, decide_true, splice, coreS, Value.cells, Value.oneCell', Nat.reduceAdd, Nat.reduceSub, Nat.reduceMul, Nat.reduceLeDiff, Int.reduceEq, Nat.reduceEqDiff, H49Fs46]
  obtain ⟨pa, hpa, epa, lpa⟩ := prodA a n 16 16 (by omega) hn16
  have hpaN : a * n + n ≤ N := by
    have : (a + 1) * n ≤ n * n := Nat.mul_le_mul_right n hal
    rw [Nat.succ_mul] at this
    omega
  refine WP_loopI [12, 13, 14, 36, 37, 38, 39, 40, 41, 42, 43, 44, 45, 46, 47, 48, 49, 50, 51, 52, 53, 54, 55, 56, 57, 58, 59, 60, 61, 62, 63, 64, 65, 66, 67, 68, 69, 70, 71, 72, 73, 74, 75, 76, 77, 78, 79, 80, 81, 82, 83, 84, 85, 86, 87, 88, 89, 90, 91, 92, 93, 94, 95, 96, 97, 98, 99, 100, 101, 102, 103, 104, 105, 106, 107, 108, 109, 110, 111, 112, 113, 114, 115, 116, 117, 118, 119, 120, 121, 122, 123, 124, 125, 126, 127, 128, 129, 130] (fun g3 h3 => ∃ b : Nat, b ≤ n ∧ g3 12 = .int .i64 b ∧
      St h3 h.size [.slice m.a n m.ca, .slice m.b m.waits.length m.cb, .int .i64 m.lo, .int .i64 m.hi] bo (sqL m k N) h'.size (sqL m (k + 1) (a * n + b) ++ List.replicate (N - (a * n + b)) 0) ∧ Ext h' h3) (fun g3 _ => match g3 12 with | .int _ q => n - q.toNat | _ => 0) ?_ ?_
  · exact ⟨0, by omega, rfl, hst, hx2⟩
  clear hst hx2
  rintro g3 h3 ⟨b, hbn, hg12, hst, hx2⟩
  by_cases hbl : b < n
  case neg =>
    have l2 : ¬ ((b : Int) < (n : Int)) := by omega
    obtain rfl : b = n := by omega
    simp only [hg12, l2, decide_false, splice, coreS, Value.cells, Value.oneCell', Nat.reduceAdd, Nat.reduceSub, Nat.reduceMul, Nat.reduceLeDiff, Int.reduceEq, Nat.reduceEqDiff, H49Fs46]
    rw [← Nat.succ_mul] at hst
    refine ⟨by rw [inK_i64]; omega, roundK_mk (by kernel_rfl) ⟨a + 1, by omega, rfl, hst, hx2⟩ ?_⟩
    show b - ((a : Int) + 1).toNat < b - (a : Int).toNat
    omega
  have l2 : (b : Int) < (n : Int) := by omega
  obtain ⟨x, hxx⟩ : ∃ x, a * n + b = x := ⟨_, rfl⟩
  have ex : (pa : Int) + (b : Int) = (x : Int) := by omega
  have hxN : x < N := by omega
  have hsucc := sqs (k + 1) a b hbl
  rw [hxx] at hst hsucc
  have hrep : List.replicate (N - x) (0 : Int) = 0 :: List.replicate (N - (x + 1)) 0 := by
    rw [show N - x = (N - (x + 1)) + 1 by omega, List.replicate_succ]
  rw [hrep] at hst
  have hano : a < m.ov.n := by omega
  have hbno : b < m.ov.n := by omega
  simp only [hg12, l2, epa, ex, hst.n, Int.toNat_natCast, decide_true, splice, coreS, Value.cells, Value.oneCell', Nat.reduceAdd, Nat.reduceSub, Nat.reduceMul, Nat.reduceLeDiff, Int.reduceEq, Nat.reduceEqDiff, H49Fs46]
  repeat (refine And.intro (by first | omega | (rw [inK_i64]; omega) | rfl | assumption | decide) ?_)
  refine stK_int hst.n (by rw [List.length_append, sqL_length, List.length_cons, List.length_replicate]; omega) fun h4 hb4 hu4 => ?_
  have hst4 := hst.upd hu4 hb4
  have hx4 := hu4.ext hx2 (Nat.le_refl _)
  rw [sq_set] at hst4
  clear hst hx2 hb4 hu4
  simp only [hst4.m, splice, coreS, Value.cells, Value.oneCell', Nat.reduceAdd, Nat.reduceSub, Nat.reduceMul, Nat.reduceLeDiff, Int.reduceEq, Nat.reduceEqDiff, H49Fs46]
  rw [hval]
  obtain ⟨bc, hbc⟩ : ∃ bc, (m.ov.can (a, a) && m.ov.can (b, b)) = bc := ⟨_, rfl⟩
  have canV : ∀ x : Nat, (decide (m.lo ≤ (x : Int)) && decide ((x : Int) ≤ m.hi)) = m.ov.can (x, x) := fun x => by rw [OV.can, gd.lo, gd.hi]; simp only [Int.ofNat_le]
  refine call_cut [49, 50, 51, 52, 53, 54, 55, 56] (fun g h5 => g 56 = .bool bc ∧ St h5 h.size [.slice m.a n m.ca, .slice m.b m.waits.length m.cb, .int .i64 m.lo, .int .i64 m.hi] bo (sqL m k N) h'.size (sqL m (k + 1) x ++ (-1) :: List.replicate (N - (x + 1)) 0) ∧ Ext h' h5) ?_ ?_
  · refine CallsH.mono (can67 m a h4) ?_
    rintro v h5 ⟨rfl, x5⟩
    have s5 := hst4.ext x5
    rw [canV]
    cases hca : m.ov.can (a, a) with
    | false =>
      rw [hca, Bool.false_and] at hbc
      simp only [s5.m, gd_none, splice, coreS, Value.cells, Value.oneCell', Nat.reduceAdd, Nat.reduceSub, Nat.reduceMul, Nat.reduceLeDiff, Int.reduceEq, Nat.reduceEqDiff, H49Fs46]
      exact midK_mk (by kernel_rfl) ⟨by rw [← hbc]; rfl, s5, hx4.trans x5⟩
    | true =>
      rw [hca, Bool.true_and] at hbc
      simp only [s5.m, splice, coreS, Value.cells, Value.oneCell', Nat.reduceAdd, Nat.reduceSub, Nat.reduceMul, Nat.reduceLeDiff, Int.reduceEq, Nat.reduceEqDiff, H49Fs46]
      rw [hval]
      refine CallsH.mono (can67 m b h5) ?_
      rintro v h6 ⟨rfl, x6⟩
      rw [canV, hbc]
      simp only [splice, coreS, Value.cells, Value.oneCell', Nat.reduceAdd, Nat.reduceSub, Nat.reduceMul, Nat.reduceLeDiff, Int.reduceEq, Nat.reduceEqDiff, H49Fs46]
      exact midK_mk (by kernel_rfl) ⟨rfl, s5.ext x6, (hx4.trans x5).trans x6⟩
  clear hst4 hx4
  rintro g5 h5 ⟨hg56, hst5, hx5⟩
  simp only [hg56, splice, coreS, Value.cells, Value.oneCell', Nat.reduceAdd, Nat.reduceSub, Nat.reduceMul, Nat.reduceLeDiff, Int.reduceEq, Nat.reduceEqDiff, H49Fs46]
  have hCv : ∀ {v : Int}, (bc = true → v = sqV m k (m.ov.c a) (m.ov.c b)) → (bc = false → v = -1) → v = castQ m k a b := by
    intro v h1 h2
    rw [castQ, castO, OV.srt_can, hbc]
    cases bc with
    | true => rw [if_pos rfl, OV.srt_C gd.ok hano hbno]; exact h1 rfl
    | false => rw [if_neg (by decide)]; exact h2 rfl
  refine cd_cut [56, 57, 58, 59, 60, 61, 62, 63, 64, 65, 66, 67, 68, 69, 70, 71, 72, 73, 74, 75] (fun g h6 => St h6 h.size [.slice m.a n m.ca, .slice m.b m.waits.length m.cb, .int .i64 m.lo, .int .i64 m.hi] bo (sqL m k N) h'.size (sqL m (k + 1) x ++ castQ m k a b :: List.replicate (N - (x + 1)) 0) ∧ Ext h' h6) ?_ ?_
  · cases bc with
    | false =>
      rw [show castQ m k a b = -1 from (hCv (v := -1) (by intro h; cases h) (fun _ => rfl)).symm]
      simp only [splice, coreS, Value.cells, Value.oneCell', Nat.reduceAdd, Nat.reduceSub, Nat.reduceMul, Nat.reduceLeDiff, Int.reduceEq, Nat.reduceEqDiff, H49Fs46]
      exact midK_mk (by kernel_rfl) ⟨hst5, hx5⟩
    | true =>
      have hcv : sqV m k (m.ov.c a) (m.ov.c b) = castQ m k a b := hCv (fun _ => rfl) (by intro h; cases h)
      have ha1 : m.ov.c a < n := by rw [← hnn]; exact gd.ok.cl a hano
      have hb1 : m.ov.c b < n := by rw [← hnn]; exact gd.ok.cl b hbno
      obtain ⟨pc, hpc, epc, lpc⟩ := prodA (m.ov.c a) n 16 16 (by omega) hn16
      have hidx := idx_lt ha1 hb1
      have eix : (pc : Int) + (m.ov.c b : Int) = ((m.ov.c a * n + m.ov.c b : Nat) : Int) := by omega
      have hat := sqat k N (m.ov.c a) (m.ov.c b) hb1 (by omega)
      rw [hcv] at hat
      have ca := (hc.ext (hx.trans hx5)).cell (j := a) (by omega)
      have cb := (hc.ext (hx.trans hx5)).cell (j := b) (by omega)
      rw [gc a hal] at ca
      rw [gc b hbl] at cb
      have sm1 := (hc.ext (hx.trans hx5)).isSome (by omega)
      simp only [splice, coreS, Value.cells, Value.oneCell', Nat.reduceAdd, Nat.reduceSub, Nat.reduceMul, Nat.reduceLeDiff, Int.reduceEq, Nat.reduceEqDiff, H49Fs46]
      refine WP_draw (by kernel_rfl) sta_eq [(0, 0), (1, 0), (2, 0), (3, 0), (4, 0), (5, 0), (6, 0), (7, 0), (8, 0), (9, 0), (10, 0), (11, 0), (12, 0), (13, 0), (14, 0), (15, 0), (16, 0), (17, 0), (18, 0), (19, 1)] (by kernel_rfl) rfl (by kernel_rfl) ?_
      simp only [hst5.m, hst5.o, hst5.n, ca, cb, epc, eix, hat, Int.toNat_natCast, splice, coreS, Value.cells, Value.oneCell', Nat.reduceAdd, Nat.reduceSub, Nat.reduceMul, Nat.reduceLeDiff, Int.reduceEq, Nat.reduceEqDiff, drawS, H49Fs46]
      repeat (refine And.intro (by first | omega | (rw [inK_i64]; omega) | rfl | assumption | decide) ?_)
      refine stK_int hst5.n (by rw [List.length_append, sqL_length, List.length_cons, List.length_replicate]; omega) fun h6 hb6 hu6 => ?_
      have hst6 := hst5.upd hu6 hb6
      rw [sq_set] at hst6
      simp only [hvK_eq, splice, coreS, Value.cells, Value.oneCell', Nat.reduceAdd, Nat.reduceSub, Nat.reduceMul, Nat.reduceLeDiff, Int.reduceEq, Nat.reduceEqDiff, drawS, H49Fs46]
      exact midK_mk (by kernel_rfl) ⟨hst6, hu6.ext hx5 (Nat.le_refl _)⟩
  clear hst5 hx5
  rintro g6 h6 ⟨hst6, hx6⟩
  have hwla : m.ov.w a ≤ a := gd.ok.wg a hano
  have hwlb : m.ov.w b ≤ b := gd.ok.wg b hbno
  have ca := (hw.ext (hx.trans hx6)).cell (j := a) (by omega)
  have cb := (hw.ext (hx.trans hx6)).cell (j := b) (by omega)
  rw [gw a hal] at ca
  rw [gw b hbl] at cb
  have sm2 := (hw.ext (hx.trans hx6)).isSome (by omega)
  have hnew := sq_new gd (k := k) (a := a) (b := b) (by omega) (by omega)
  have hRb := wait_bound gd (by omega) (k := k) (a := a) (b := b) (by omega) (by omega) (by omega)
  have hwn : ¬ (m.ov.w a < a ∨ m.ov.w b < b) → waitQ m k a b = -1 := fun hh => by
    rw [waitQ, waitO, if_pos ((OV.srt_fix gd.ok hano hbno).2 hh)]; rfl
  have hws : (m.ov.w a < a ∨ m.ov.w b < b) → waitQ m k a b = sqV m (k + 1) (m.ov.w a) (m.ov.w b) := fun hh => by
    rw [waitQ, waitO, if_neg (fun e => (OV.srt_fix gd.ok hano hbno).1 e hh), OV.srt_W gd.ok hano hbno]; rfl
  obtain ⟨R, hRe⟩ : ∃ R, waitQ m k a b = R := ⟨_, rfl⟩
  obtain ⟨V, hVe⟩ : ∃ V, castQ m k a b = V := ⟨_, rfl⟩
  rw [hVe] at hst6
  rw [hRe, hVe] at hnew
  rw [hRe] at hRb hwn hws
  have hat6 := sq_mid m (k + 1) x (N - (x + 1)) V
  have fin : ∀ {h7 : Eng.Heap}, St h7 h.size [.slice m.a n m.ca, .slice m.b m.waits.length m.cb, .int .i64 m.lo, .int .i64 m.hi] bo (sqL m k N) h'.size (sqL m (k + 1) x ++ sqV m (k + 1) a b :: List.replicate (N - (x + 1)) 0) → St h7 h.size [.slice m.a n m.ca, .slice m.b m.waits.length m.cb, .int .i64 m.lo, .int .i64 m.hi] bo (sqL m k N) h'.size (sqL m (k + 1) (a * n + (b + 1)) ++ List.replicate (N - (a * n + (b + 1))) 0) := by
    intro h7 q
    rw [show a * n + (b + 1) = x + 1 by omega, hsucc, List.append_assoc]
    exact q
  have mlt : n - ((b : Int) + 1).toNat < n - (b : Int).toNat := by omega
  have hbn1 : b + 1 ≤ n := by omega
  by_cases w1 : m.ov.w a < a
  case pos =>
    have q1 : (m.ov.w a : Int) < (a : Int) := by omega
    simp only [hst6.m, ca, q1, gd_none, Int.toNat_natCast, decide_true, splice, coreS, Value.cells, Value.oneCell', Nat.reduceAdd, Nat.reduceSub, Nat.reduceMul, Nat.reduceLeDiff, Int.reduceEq, Nat.reduceEqDiff, H49Fs46]
    repeat (refine And.intro (by first | omega | (rw [inK_i64]; omega) | rfl | assumption | decide) ?_)
    try simp only [hst6.m, ca, q1, gd_none, Int.toNat_natCast, decide_true, splice, coreS, Value.cells, Value.oneCell', Nat.reduceAdd, Nat.reduceSub, Nat.reduceMul, Nat.reduceLeDiff, Int.reduceEq, Nat.reduceEqDiff, H49Fs46]
    obtain ⟨pw, hpw, epw, lpw⟩ := prodA (m.ov.w a) n 16 16 (by omega) hn16
    have hidx : m.ov.w a * n + m.ov.w b < x := by
      have h1 : m.ov.w a * n ≤ a * n := Nat.mul_le_mul_right n hwla
      rcases Nat.lt_or_ge (m.ov.w a) a with h | h
      · have : (m.ov.w a + 1) * n ≤ a * n := Nat.mul_le_mul_right n h
        rw [Nat.succ_mul] at this
        omega
      · omega
    have eix : (pw : Int) + (m.ov.w b : Int) = ((m.ov.w a * n + m.ov.w b : Nat) : Int) := by omega
    have hatw := sqlt (k + 1) x (N - (x + 1)) (m.ov.w a) (m.ov.w b) V (by omega) hidx
    rw [← hws (.inl w1)] at hatw
    refine WP_draw (by kernel_rfl) sta_eq [(0, 0), (1, 0), (2, 0), (3, 0), (4, 0), (5, 0), (6, 0), (7, 0), (8, 0), (9, 0), (10, 0), (11, 0), (12, 0), (13, 0), (14, 0), (15, 0), (16, 0)] (by kernel_rfl) rfl (by kernel_rfl) ?_
    simp only [hst6.m, hst6.n, ca, cb, epw, eix, hatw, Int.toNat_natCast, splice, coreS, Value.cells, Value.oneCell', Nat.reduceAdd, Nat.reduceSub, Nat.reduceMul, Nat.reduceLeDiff, Int.reduceEq, Nat.reduceEqDiff, drawS, H49Fs46]
    repeat (refine And.intro (by first | omega | (rw [inK_i64]; omega) | rfl | assumption | decide) ?_)
    try simp only [hvK_eq, splice, coreS, Value.cells, Value.oneCell', Nat.reduceAdd, Nat.reduceSub, Nat.reduceMul, Nat.reduceLeDiff, Int.reduceEq, Nat.reduceEqDiff, drawS, H49Fs46]
    by_cases c1 : 0 ≤ R
    · by_cases c2 : V < 0
      · simp only [hst6.n, hat6, c1, c2, gd_none, decide_true, Int.toNat_natCast, splice, coreS, Value.cells, Value.oneCell', Nat.reduceAdd, Nat.reduceSub, Nat.reduceMul, Nat.reduceLeDiff, Int.reduceEq, Nat.reduceEqDiff, H49Fs46]
        repeat (refine And.intro (by first | omega | (rw [inK_i64]; omega) | rfl | assumption | decide) ?_)
        refine stK_int hst6.n (by rw [List.length_append, sqL_length, List.length_cons, List.length_replicate]; omega) fun h7 hb7 hu7 => ?_
        have hst7 := hst6.upd hu7 hb7
        rw [sq_set] at hst7
        simp only [splice, coreS, Value.cells, Value.oneCell', Nat.reduceAdd, Nat.reduceSub, Nat.reduceMul, Nat.reduceLeDiff, Int.reduceEq, Nat.reduceEqDiff, H49Fs46]
        exact ⟨by rw [inK_i64]; omega, roundK_mk (by kernel_rfl) ⟨b + 1, hbn1, rfl, fin (by rw [hnew, if_pos ⟨c1, .inl c2⟩]; exact hst7), hu7.ext hx6 (Nat.le_refl _)⟩ mlt⟩
      · by_cases c3 : R + 1 < V
        · simp only [hst6.n, hat6, c1, c2, c3, gd_none, decide_true, decide_false, Int.toNat_natCast, splice, coreS, Value.cells, Value.oneCell', Nat.reduceAdd, Nat.reduceSub, Nat.reduceMul, Nat.reduceLeDiff, Int.reduceEq, Nat.reduceEqDiff, H49Fs46]
          repeat (refine And.intro (by first | omega | (rw [inK_i64]; omega) | rfl | assumption | decide) ?_)
          try simp only [hst6.n, hat6, c1, c2, c3, gd_none, decide_true, decide_false, Int.toNat_natCast, splice, coreS, Value.cells, Value.oneCell', Nat.reduceAdd, Nat.reduceSub, Nat.reduceMul, Nat.reduceLeDiff, Int.reduceEq, Nat.reduceEqDiff, H49Fs46]
          repeat (refine And.intro (by first | omega | (rw [inK_i64]; omega) | rfl | assumption | decide) ?_)
          refine stK_int hst6.n (by rw [List.length_append, sqL_length, List.length_cons, List.length_replicate]; omega) fun h7 hb7 hu7 => ?_
          have hst7 := hst6.upd hu7 hb7
          rw [sq_set] at hst7
          simp only [splice, coreS, Value.cells, Value.oneCell', Nat.reduceAdd, Nat.reduceSub, Nat.reduceMul, Nat.reduceLeDiff, Int.reduceEq, Nat.reduceEqDiff, H49Fs46]
          exact ⟨by rw [inK_i64]; omega, roundK_mk (by kernel_rfl) ⟨b + 1, hbn1, rfl, fin (by rw [hnew, if_pos ⟨c1, .inr c3⟩]; exact hst7), hu7.ext hx6 (Nat.le_refl _)⟩ mlt⟩
        · simp only [hst6.n, hat6, c1, c2, c3, gd_none, decide_true, decide_false, Int.toNat_natCast, splice, coreS, Value.cells, Value.oneCell', Nat.reduceAdd, Nat.reduceSub, Nat.reduceMul, Nat.reduceLeDiff, Int.reduceEq, Nat.reduceEqDiff, H49Fs46]
          refine ⟨⟨by omega, by omega⟩, rfl, by rw [inK_i64]; omega, ⟨by omega, by omega⟩, rfl, by rw [inK_i64]; omega, roundK_mk (by kernel_rfl) ⟨b + 1, hbn1, rfl, fin (by rw [hnew, if_neg (fun hh => hh.2.elim c2 c3)]; exact hst6), hx6⟩ mlt⟩
    · simp only [hst6.n, hat6, c1, gd_none, decide_false, Int.toNat_natCast, splice, coreS, Value.cells, Value.oneCell', Nat.reduceAdd, Nat.reduceSub, Nat.reduceMul, Nat.reduceLeDiff, Int.reduceEq, Nat.reduceEqDiff, H49Fs46]
      exact ⟨by rw [inK_i64]; omega, roundK_mk (by kernel_rfl) ⟨b + 1, hbn1, rfl, fin (by rw [hnew, if_neg (fun hh => c1 hh.1)]; exact hst6), hx6⟩ mlt⟩
  have q1 : ¬ (m.ov.w a : Int) < (a : Int) := by omega
  by_cases w2 : m.ov.w b < b
  case pos =>
    have q2 : (m.ov.w b : Int) < (b : Int) := by omega
    simp only [hst6.m, ca, cb, q1, q2, gd_none, Int.toNat_natCast, decide_true, decide_false, splice, coreS, Value.cells, Value.oneCell', Nat.reduceAdd, Nat.reduceSub, Nat.reduceMul, Nat.reduceLeDiff, Int.reduceEq, Nat.reduceEqDiff, H49Fs46]
    repeat (refine And.intro (by first | omega | (rw [inK_i64]; omega) | rfl | assumption | decide) ?_)
    try simp only [hst6.m, ca, cb, q1, q2, gd_none, Int.toNat_natCast, decide_true, decide_false, splice, coreS, Value.cells, Value.oneCell', Nat.reduceAdd, Nat.reduceSub, Nat.reduceMul, Nat.reduceLeDiff, Int.reduceEq, Nat.reduceEqDiff, H49Fs46]
    obtain ⟨pw, hpw, epw, lpw⟩ := prodA (m.ov.w a) n 16 16 (by omega) hn16
    have hidx : m.ov.w a * n + m.ov.w b < x := by
      have h1 : m.ov.w a * n ≤ a * n := Nat.mul_le_mul_right n hwla
      rcases Nat.lt_or_ge (m.ov.w a) a with h | h
      · have : (m.ov.w a + 1) * n ≤ a * n := Nat.mul_le_mul_right n h
        rw [Nat.succ_mul] at this
        omega
      · omega
    have eix : (pw : Int) + (m.ov.w b : Int) = ((m.ov.w a * n + m.ov.w b : Nat) : Int) := by omega
    have hatw := sqlt (k + 1) x (N - (x + 1)) (m.ov.w a) (m.ov.w b) V (by omega) hidx
    rw [← hws (.inr w2)] at hatw
    refine WP_draw (by kernel_rfl) sta_eq [(0, 0), (1, 0), (2, 0), (3, 0), (4, 0), (5, 0), (6, 0), (7, 0), (8, 0), (9, 0), (10, 0), (11, 0), (12, 0), (13, 0), (14, 0), (15, 0), (16, 0)] (by kernel_rfl) rfl (by kernel_rfl) ?_
    simp only [hst6.m, hst6.n, ca, cb, epw, eix, hatw, Int.toNat_natCast, splice, coreS, Value.cells, Value.oneCell', Nat.reduceAdd, Nat.reduceSub, Nat.reduceMul, Nat.reduceLeDiff, Int.reduceEq, Nat.reduceEqDiff, drawS, H49Fs46]
    repeat (refine And.intro (by first | omega | (rw [inK_i64]; omega) | rfl | assumption | decide) ?_)
    try simp only [hvK_eq, splice, coreS, Value.cells, Value.oneCell', Nat.reduceAdd, Nat.reduceSub, Nat.reduceMul, Nat.reduceLeDiff, Int.reduceEq, Nat.reduceEqDiff, drawS, H49Fs46]
    by_cases c1 : 0 ≤ R
    · by_cases c2 : V < 0
      · simp only [hst6.n, hat6, c1, c2, gd_none, decide_true, Int.toNat_natCast, splice, coreS, Value.cells, Value.oneCell', Nat.reduceAdd, Nat.reduceSub, Nat.reduceMul, Nat.reduceLeDiff, Int.reduceEq, Nat.reduceEqDiff, H49Fs46]
        repeat (refine And.intro (by first | omega | (rw [inK_i64]; omega) | rfl | assumption | decide) ?_)
        refine stK_int hst6.n (by rw [List.length_append, sqL_length, List.length_cons, List.length_replicate]; omega) fun h7 hb7 hu7 => ?_
        have hst7 := hst6.upd hu7 hb7
        rw [sq_set] at hst7
        simp only [splice, coreS, Value.cells, Value.oneCell', Nat.reduceAdd, Nat.reduceSub, Nat.reduceMul, Nat.reduceLeDiff, Int.reduceEq, Nat.reduceEqDiff, H49Fs46]
        exact ⟨by rw [inK_i64]; omega, roundK_mk (by kernel_rfl) ⟨b + 1, hbn1, rfl, fin (by rw [hnew, if_pos ⟨c1, .inl c2⟩]; exact hst7), hu7.ext hx6 (Nat.le_refl _)⟩ mlt⟩
      · by_cases c3 : R + 1 < V
        · simp only [hst6.n, hat6, c1, c2, c3, gd_none, decide_true, decide_false, Int.toNat_natCast, splice, coreS, Value.cells, Value.oneCell', Nat.reduceAdd, Nat.reduceSub, Nat.reduceMul, Nat.reduceLeDiff, Int.reduceEq, Nat.reduceEqDiff, H49Fs46]
          repeat (refine And.intro (by first | omega | (rw [inK_i64]; omega) | rfl | assumption | decide) ?_)
          try simp only [hst6.n, hat6, c1, c2, c3, gd_none, decide_true, decide_false, Int.toNat_natCast, splice, coreS, Value.cells, Value.oneCell', Nat.reduceAdd, Nat.reduceSub, Nat.reduceMul, Nat.reduceLeDiff, Int.reduceEq, Nat.reduceEqDiff, H49Fs46]
          repeat (refine And.intro (by first | omega | (rw [inK_i64]; omega) | rfl | assumption | decide) ?_)
          refine stK_int hst6.n (by rw [List.length_append, sqL_length, List.length_cons, List.length_replicate]; omega) fun h7 hb7 hu7 => ?_
          have hst7 := hst6.upd hu7 hb7
          rw [sq_set] at hst7
          simp only [splice, coreS, Value.cells, Value.oneCell', Nat.reduceAdd, Nat.reduceSub, Nat.reduceMul, Nat.reduceLeDiff, Int.reduceEq, Nat.reduceEqDiff, H49Fs46]
          exact ⟨by rw [inK_i64]; omega, roundK_mk (by kernel_rfl) ⟨b + 1, hbn1, rfl, fin (by rw [hnew, if_pos ⟨c1, .inr c3⟩]; exact hst7), hu7.ext hx6 (Nat.le_refl _)⟩ mlt⟩
        · simp only [hst6.n, hat6, c1, c2, c3, gd_none, decide_true, decide_false, Int.toNat_natCast, splice, coreS, Value.cells, Value.oneCell', Nat.reduceAdd, Nat.reduceSub, Nat.reduceMul, Nat.reduceLeDiff, Int.reduceEq, Nat.reduceEqDiff, H49Fs46]
          refine ⟨⟨by omega, by omega⟩, rfl, by rw [inK_i64]; omega, ⟨by omega, by omega⟩, rfl, by rw [inK_i64]; omega, roundK_mk (by kernel_rfl) ⟨b + 1, hbn1, rfl, fin (by rw [hnew, if_neg (fun hh => hh.2.elim c2 c3)]; exact hst6), hx6⟩ mlt⟩
    · simp only [hst6.n, hat6, c1, gd_none, decide_false, Int.toNat_natCast, splice, coreS, Value.cells, Value.oneCell', Nat.reduceAdd, Nat.reduceSub, Nat.reduceMul, Nat.reduceLeDiff, Int.reduceEq, Nat.reduceEqDiff, H49Fs46]
      exact ⟨by rw [inK_i64]; omega, roundK_mk (by kernel_rfl) ⟨b + 1, hbn1, rfl, fin (by rw [hnew, if_neg (fun hh => c1 hh.1)]; exact hst6), hx6⟩ mlt⟩
  case neg =>
    have q2 : ¬ (m.ov.w b : Int) < (b : Int) := by omega
    have hRn := hwn (by omega)
    have c1 : ¬ (0 : Int) ≤ -1 := by decide
    simp only [hst6.m, ca, cb, q1, q2, c1, gd_none, Int.toNat_natCast, decide_true, decide_false, splice, coreS, Value.cells, Value.oneCell', Nat.reduceAdd, Nat.reduceSub, Nat.reduceMul, Nat.reduceLeDiff, Int.reduceEq, Nat.reduceEqDiff, H49Fs46]
    repeat (refine And.intro (by first | omega | (rw [inK_i64]; omega) | rfl | assumption | decide) ?_)
    try simp only [hst6.m, ca, cb, q1, q2, c1, gd_none, Int.toNat_natCast, decide_true, decide_false, splice, coreS, Value.cells, Value.oneCell', Nat.reduceAdd, Nat.reduceSub, Nat.reduceMul, Nat.reduceLeDiff, Int.reduceEq, Nat.reduceEqDiff, H49Fs46]
    exact roundK_mk (by kernel_rfl) ⟨b + 1, hbn1, rfl, fin (by rw [hnew, if_neg (fun hh => c1 (hRn ▸ hh.1))]; exact hst6), hx6⟩ mlt
end Go.Proofs.YtafemfjhflfdeaaDoor

