/- Walks of the document: Chain, Swap. -/
import Derived.Test.YtmgkeeefbfefgaaGreatPAQZ3
namespace Go.Proofs.YtmgkeeefbfefgaaGreat
open Go Go.Proofs Go.Eng Go.Run Tab
set_option maxRecDepth 100000
set_option linter.unusedSimpArgs false
set_option linter.unusedVariables false
set_option linter.defProp false
set_option maxHeartbeats 4000000
set_option linter.defProp false
def Z4Fs12 := (And.intro @agg24 (And.intro @inf24 @sz24))
def Z4Fs14 := (And.intro (And.intro (And.intro @agg24 @agg3) (And.intro @by3 @inf24)) (And.intro (And.intro @inf3 @sz24) (And.intro @sz3 (And.intro @zero3 @Tryz.underlying25))))
/-- What Chain returns, in any case. -/
noncomputable def chnR (S M : Int) (ws : List Wn) (days : List Int) (want day : Int) : List Nat := open Classical in if chnE S M ws days want day = 0 then chnL ws days want day else []
noncomputable def swR (S M : Int) (ws : List Wn) (days : List Int) (want day : Int) : List Nat := open Classical in if chnE S M ws days want day = 0 then swL ws days want day else []
theorem chain12 (S M : Int) (a : Option Addr) (n c : Nat) (ws : List Wn) (b : Option Addr) (m k : Nat) (days : List Int) (want day : Int) (h : Eng.Heap) (hr : Row h a (wsV ws)) (hn : n = ws.length) (hl : n ≤ 1000000) (hd : IntsV h b m days) (hm : m ≤ 1000000) (hmk : m ≤ k) :
    CallsH Tryz.prog 12 #[.agg #[.int .i64 S, .int .i64 M, .slice a n c], .slice b m k, .int .i64 want, .int .i64 day] h (fun v h' => (∃ a' c', v = .tuple #[.slice a' (chnR S M ws days want day).length c', .int .i64 (chnE S M ws days want day)] ∧ IntsV h' a' (chnR S M ws days want day).length (zsN (chnR S M ws days want day))) ∧ Ext h h') := by
  have hml := hd.len
  (refine CallsH_of_exec Tryz.func12 rfl bod12 ?_; simp only [Tryz.ntmps12, Tryz.results12, coreS, stK_some, splice, Value.cells, Value.oneCell', Nat.reduceAdd, Nat.reduceSub, Nat.reduceMul, Nat.reduceLeDiff, Int.reduceEq, Nat.reduceEqDiff, Z4Fs12])
  have x0 : Ext h (h.push (.cells #[.int .i64 S, .int .i64 M, .slice a n c] 24)) := (Ext.refl h).push _
  have q0 := push_new (h := h) (o := .cells #[.int .i64 S, .int .i64 M, .slice a n c] 24)
  generalize h.push (.cells #[.int .i64 S, .int .i64 M, .slice a n c] 24) = hh at x0 q0 ⊢
  refine CallsH.mono (chained35 S M a n c ws b m k days want day hh (hr.ext x0) hn hl (hd.ext x0) hm hmk) ?_
  rintro v h1 ⟨rfl, x1⟩
  have y1 := x0.trans x1
  have k0 := x1.get q0
  unfold chnR
  by_cases hc : chnE S M ws days want day = 0
  case neg =>
    rw [if_neg hc]
    simp only [hc, k0, decide_false, Bool.not_false, coreS, Value.cells, Value.oneCell', Nat.reduceAdd, Nat.reduceSub, Nat.reduceMul, Nat.reduceLeDiff, Int.reduceEq, Nat.reduceEqDiff, Z4Fs12]
    refine CallsH.mono (chained35 S M a n c ws b m k days want day h1 (hr.ext y1) hn hl (hd.ext y1) hm hmk) ?_
    rintro v h2 ⟨rfl, x2⟩
    simp only [coreS, Value.cells, Value.oneCell', Nat.reduceAdd, Nat.reduceSub, Nat.reduceMul, Nat.reduceLeDiff, Int.reduceEq, Nat.reduceEqDiff, Z4Fs12]
    exact ⟨⟨none, 0, rfl, IntsV.nil _⟩, y1.trans x2⟩
  rw [if_pos hc]
  obtain ⟨e1, e2, e3, e4⟩ := chnE_ok hc
  obtain ⟨f1, f2, f3, f4⟩ := chkD_ok e1
  obtain ⟨s, mm, rfl, rfl, V⟩ := chk_ok f1
  obtain ⟨w, rfl⟩ : ∃ w : Nat, want = w := ⟨want.toNat, by omega⟩
  obtain ⟨d, rfl⟩ : ∃ d : Nat, day = d := ⟨day.toNat, by omega⟩
  simp only [hc, k0, decide_true, Bool.not_true, coreS, Value.cells, Value.oneCell', Nat.reduceAdd, Nat.reduceSub, Nat.reduceMul, Nat.reduceLeDiff, Int.reduceEq, Nat.reduceEqDiff, Z4Fs12]
  refine CallsH.mono (chainOf36 s mm a n c ws b m k days w d h1 (hr.ext y1) hn V (hd.ext y1) e1 (by omega) (by omega)) ?_
  rintro v h2 ⟨⟨a', c', rfl, I2⟩, x2⟩
  simp only [coreS, Value.cells, Value.oneCell', Nat.reduceAdd, Nat.reduceSub, Nat.reduceMul, Nat.reduceLeDiff, Int.reduceEq, Nat.reduceEqDiff, Z4Fs12]
  exact ⟨⟨a', c', rfl, I2⟩, y1.trans x2⟩
theorem zsN_fn {l : List Nat} {C : Nat → Nat} {n : Nat} (hl : l.length = n) (h : ∀ i, i < n → l.getD i 0 = C i) : l = (List.range n).map C := by
  subst hl
  refine List.ext_getElem (by simp) fun i h1 h2 => ?_
  have := h i h1
  rw [List.getD_eq_getElem?_getD, List.getElem?_eq_getElem h1] at this
  simpa using this
theorem swap14 (S M : Int) (a : Option Addr) (n c : Nat) (ws : List Wn) (b : Option Addr) (m k : Nat) (days : List Int) (want day : Int) (h : Eng.Heap) (hr : Row h a (wsV ws)) (hn : n = ws.length) (hl : n ≤ 1000000) (hd : IntsV h b m days) (hm : m ≤ 1000000) (hmk : m ≤ k) :
    CallsH Tryz.prog 14 #[.agg #[.int .i64 S, .int .i64 M, .slice a n c], .slice b m k, .int .i64 want, .int .i64 day] h (fun v h' => (∃ a' c', v = .tuple #[.slice a' (swR S M ws days want day).length c', .int .i64 (chnE S M ws days want day)] ∧ IntsV h' a' (swR S M ws days want day).length (zsN (swR S M ws days want day))) ∧ Ext h h') := by
  have hml := hd.len
  (refine CallsH_of_exec Tryz.func14 rfl bod14 ?_; simp only [Tryz.ntmps14, Tryz.results14, coreS, stK_some, splice, Value.cells, Value.oneCell', Nat.reduceAdd, Nat.reduceSub, Nat.reduceMul, Nat.reduceLeDiff, Int.reduceEq, Nat.reduceEqDiff, Z4Fs14])
  have x0 : Ext h (h.push (.cells #[.int .i64 S, .int .i64 M, .slice a n c] 24)) := (Ext.refl h).push _
  have q0 := push_new (h := h) (o := .cells #[.int .i64 S, .int .i64 M, .slice a n c] 24)
  generalize h.push (.cells #[.int .i64 S, .int .i64 M, .slice a n c] 24) = hh at x0 q0 ⊢
  refine CallsH.mono (chained35 S M a n c ws b m k days want day hh (hr.ext x0) hn hl (hd.ext x0) hm hmk) ?_
  rintro v h1 ⟨rfl, x1⟩
  have y1 := x0.trans x1
  have k0 := x1.get q0
  unfold swR
  by_cases hc : chnE S M ws days want day = 0
  case neg =>
    rw [if_neg hc]
    simp only [hc, k0, decide_false, Bool.not_false, coreS, Value.cells, Value.oneCell', Nat.reduceAdd, Nat.reduceSub, Nat.reduceMul, Nat.reduceLeDiff, Int.reduceEq, Nat.reduceEqDiff, Z4Fs14]
    refine CallsH.mono (chained35 S M a n c ws b m k days want day h1 (hr.ext y1) hn hl (hd.ext y1) hm hmk) ?_
    rintro v h2 ⟨rfl, x2⟩
    simp only [coreS, Value.cells, Value.oneCell', Nat.reduceAdd, Nat.reduceSub, Nat.reduceMul, Nat.reduceLeDiff, Int.reduceEq, Nat.reduceEqDiff, Z4Fs14]
    exact ⟨⟨none, 0, rfl, IntsV.nil _⟩, y1.trans x2⟩
  rw [if_pos hc]
  obtain ⟨e1, e2, e3, e4⟩ := chnE_ok hc
  obtain ⟨f1, f2, f3, f4⟩ := chkD_ok e1
  obtain ⟨s, mm, rfl, rfl, V⟩ := chk_ok f1
  obtain ⟨w, rfl⟩ : ∃ w : Nat, want = w := ⟨want.toNat, by omega⟩
  obtain ⟨d, rfl⟩ : ∃ d : Nat, day = d := ⟨day.toNat, by omega⟩
  have hV := V.n
  have hall := inB_iff.1 f3
  obtain ⟨C, hC⟩ : ∃ C : Nat → Nat, C = fun i => (natL days).getD i 0 := ⟨_, rfl⟩
  have hCd : ∀ i, i < m → days.getD i 0 = (C i : Nat) ∧ C i ≤ 13 := fun i hi => by
    have e1 : C i = (natL days).getD i 0 := by rw [hC]
    rw [e1, natL_get]
    have hm : days.getD i 0 ∈ days := by
      have : i < days.length := by omega
      simp [List.getD, List.getElem?_eq_getElem this]
    have := hall _ hm
    omega
  have hmn : m = n := by omega
  have hdz : days = zsN ((List.range m).map C) := by
    have : zsN (natL days) = days := zsN_natL fun x hx => (hall x hx).1
    rw [← this]
    congr 1
    exact zsN_fn (by rw [natL_length]; omega) fun i hi => by rw [hC]
  obtain ⟨L, hL⟩ : ∃ L, L = chnL ws days w d := ⟨_, rfl⟩
  have hLm : ∀ x ∈ L, x < m ∧ (C x = C w ∨ C x = d) := fun x hx => by
    rw [hL] at hx
    have := chnL_mem (by omega) hx
    have h2 := this.2.col
    exact ⟨by omega, by rw [hC]; exact h2⟩
  have hsw : swL ws days w d = (List.range m).map (swj C w d L) := by
    unfold swL
    rw [← hL, Int.toNat_natCast, Int.toNat_natCast, ← hC, hmn, hn]
  have hwC : C w ≠ d := fun e => e4 (by rw [Int.toNat_natCast, (hCd w (by omega)).1, e])
  simp only [hc, k0, decide_true, Bool.not_true, coreS, Value.cells, Value.oneCell', Nat.reduceAdd, Nat.reduceSub, Nat.reduceMul, Nat.reduceLeDiff, Int.reduceEq, Nat.reduceEqDiff, Z4Fs14]
  refine CallsH.mono (chainOf36 s mm a n c ws b m k days w d h1 (hr.ext y1) hn V (hd.ext y1) e1 (by omega) (by omega)) ?_
  rintro v h2 ⟨⟨aL, cL, rfl, I2⟩, x2⟩
  have y2 := y1.trans x2
  rw [← hL] at I2
  have E0 : OwnI h2.size (h2.push (.cells #[] 3)) 3 (some ⟨h2.size, 0, none⟩) 0 0 [] := own_empty (Nat.le_refl _)
  have xe : Ext h2 (h2.push (.cells #[] 3)) := (Ext.refl h2).push _
  simp only [← hL, coreS, Value.cells, Value.oneCell', Nat.reduceAdd, Nat.reduceSub, Nat.reduceMul, Nat.reduceLeDiff, Int.reduceEq, Nat.reduceEqDiff, Z4Fs14]
  refine app25 (m0 := h2.size) (len := 0) (xs := []) (ys := days) rfl rfl E0 (by rw [push_size]; omega) ((hd.ext y2).ext xe) (by omega) fun a3 c3 h3 O3 A3 => ?_
  have x3 : Ext h2 h3 := A3.extN E0 xe (Nat.le_refl _)
  rw [Nat.zero_add, List.nil_append] at O3
  rw [Nat.zero_add]
  obtain ⟨g, tl, rfl, hg, hb3, hc2, hc3, _⟩ := O3.block (by omega)
  have y2s := y2.size
  have hgl := lt_of_get hb3
  have hz0 : (List.range m).map (swj C w d []) = (List.range m).map C := List.map_congr_left fun x _ => by simp [swj]
  have hLl : L.length ≤ m := by
    have h1 : L.Nodup := by rw [hL]; exact List.Pairwise.filter _ List.nodup_range
    have := MB.nodup_le (m := List.range m) h1 fun x hx => List.mem_range.2 (hLm x hx).1
    simpa using this
  rw [hdz] at hb3
  simp only [coreS, Value.cells, Value.oneCell', Nat.reduceAdd, Nat.reduceSub, Nat.reduceMul, Nat.reduceLeDiff, Int.reduceEq, Nat.reduceEqDiff, Z4Fs14]
  refine WP_loopI [12, 32, 33, 34, 35, 36, 37, 38, 39, 40, 41, 42, 43, 44, 45, 46, 47, 48, 49, 50, 51, 52, 53, 54, 55, 56, 57] (fun e h' => Ext h2 h' ∧ ∃ j : Nat, j ≤ L.length ∧ e 12 = .int .i64 j ∧ h'[g]? = some (.cells (Eng.ints (zsN ((List.range m).map (swj C w d (L.take j)))) ++ tl).toArray 3)) (fun e _ => match e 12 with | .int _ q => L.length - q.toNat | _ => 0) ⟨x3, 0, by omega, rfl, by rw [List.take_zero, hz0]; exact hb3⟩ ?_
  rintro e h4 ⟨x4, j, hj, he, hb⟩
  by_cases hjl : j < L.length
  · have hlt : (j : Int) < (L.length : Int) := by omega
    have meas : L.length - ((j : Int) + 1).toNat < L.length - (j : Int).toNat := by omega
    obtain ⟨i, hi⟩ : ∃ i, i = L.getD j 0 := ⟨_, rfl⟩
    have him : i ∈ L := by rw [hi]; exact MB.mem_getD hjl
    obtain ⟨him1, hic⟩ := hLm i him
    have cl := (I2.ext x4).cell (j := j) (by rw [zsN_length]; exact hjl)
    rw [zsN_atZ, ← hi] at cl
    have sL := (I2.ext x4).isSome (by rw [zsN_length]; omega)
    have hd4 := (hd.ext y2).ext x4
    have ci := hd4.cell (j := i) (by omega)
    have cw := hd4.cell (j := w) (by omega)
    have sb := hd4.isSome (by omega)
    obtain ⟨ci1, ci2⟩ := hCd i (by omega)
    obtain ⟨cw1, cw2⟩ := hCd w (by omega)
    rw [ci1] at ci
    rw [cw1] at cw
    have hv : ((C w : Nat) : Int) + (d : Int) - (C i : Nat) = ((if C i = d then C w else d : Nat) : Int) := by
      by_cases hcd : C i = d
      · rw [if_pos hcd, hcd]; omega
      · rw [if_neg hcd]
        rcases hic with h1 | h1
        · rw [h1]; omega
        · exact absurd h1 hcd
    have tk : L.take (j + 1) = L.take j ++ [i] := by rw [MB.take_snoc hjl, hi]
    have hln : (zsN ((List.range m).map (swj C w d (L.take j)))).length = m := by rw [zsN_length]; simp
    simp only [he, hlt, decide_true, coreS, Value.cells, Value.oneCell', Nat.reduceAdd, Nat.reduceSub, Nat.reduceMul, Nat.reduceLeDiff, Int.reduceEq, Nat.reduceEqDiff, Z4Fs14]
    refine WP_draw (by kernel_rfl) sta_eq [(0, 0), (1, 0), (2, 0), (3, 0), (4, 0), (5, 0), (6, 0), (7, 0), (8, 0), (9, 0), (10, 0), (11, 0), (12, 0), (13, 0), (14, 0), (15, 0), (16, 0), (17, 0), (18, 0), (19, 0), (20, 1)] (by kernel_rfl) rfl (by kernel_rfl) ?_
    simp only [he, hb, cl, ci, cw, Int.toNat_natCast, hvK_eq, coreS, Value.cells, Value.oneCell', Nat.reduceAdd, Nat.reduceSub, Nat.reduceMul, Nat.reduceLeDiff, Int.reduceEq, Nat.reduceEqDiff, drawS, Z4Fs14]
    refine ⟨⟨by omega, by omega⟩, sL, ⟨by omega, by omega⟩, sb, by rw [inK_i64]; omega, ⟨by omega, by omega⟩, sL, ⟨by omega, by omega⟩, sb, by rw [inK_i64]; omega, ⟨by omega, by omega⟩, rfl, ?_⟩
    rw [hv]
    refine stK_abs hb (by simp [Eng.ints_length, zsN_length]; omega) fun h5 g5 u5 => ?_
    have hsp : splice (Eng.ints (zsN ((List.range m).map (swj C w d (L.take j)))) ++ tl) i [.int .i64 ((if C i = d then C w else d : Nat) : Int)] = Eng.ints (zsN ((List.range m).map (swj C w d (L.take (j + 1))))) ++ tl := by
      rw [splice_one _ _ _ (by rw [List.length_append, Eng.ints_length, hln]; omega), List.set_append_left _ _ (by rw [Eng.ints_length, hln]; exact him1), Eng.ints_set, tk]
      congr 2
      have := sw_put (C := C) (w := w) (d := d) (l := L.take j) him1 (v := if C i = d then C w else d) rfl
      unfold zsN
      rw [← List.map_set, this]
    rw [hsp] at g5
    simp only [he, hvK_eq, coreS, Value.cells, Value.oneCell', Nat.reduceAdd, Nat.reduceSub, Nat.reduceMul, Nat.reduceLeDiff, Int.reduceEq, Nat.reduceEqDiff, drawS, Z4Fs14]
    exact ⟨by rw [inK_i64]; omega, roundK_mk (by kernel_rfl) ⟨u5.ext x4 (by omega), j + 1, by omega, rfl, g5⟩ meas⟩
  obtain rfl : j = L.length := by omega
  simp only [he, show ¬ ((L.length : Int) < (L.length : Int)) by omega, decide_false, coreS, Value.cells, Value.oneCell', Nat.reduceAdd, Nat.reduceSub, Nat.reduceMul, Nat.reduceLeDiff, Int.reduceEq, Nat.reduceEqDiff, Z4Fs14]
  rw [List.take_length, ← hsw] at hb
  have hsl : (swL ws days w d).length = m := by rw [hsw]; simp
  rw [hsl]
  have I4 := (OwnI.of_block (m := 0) (cap := c3) (xs := zsN (swL ws days w d)) (Nat.zero_le _) hb (by rw [zsN_length]; omega) (by rw [zsN_length]; omega)).ints
  rw [zsN_length, hsl] at I4
  exact ⟨⟨_, _, rfl, I4⟩, y2.trans x4⟩
end Go.Proofs.YtmgkeeefbfefgaaGreat
