/- Walks: fine, few, Given. -/
import Derived.Test.YtmgkeeefbfefgaaM14
import Derived.Test.YtmgkeeefbfefgaaEngO
namespace Go.Proofs.Ytmgkeeefbfefgaa
open Go Go.Proofs Go.Eng Go.Run Tab
set_option maxRecDepth 100000
set_option linter.unusedSimpArgs false
set_option linter.unusedVariables false
set_option linter.defProp false
set_option maxHeartbeats 1000000
set_option linter.defProp false
def M15Fs36 := (And.intro @agg24 (And.intro @inf24 @sz24))
def M15Fs37 := (And.intro @agg24 (And.intro @inf24 @sz24))
def M15Fs38 := (And.intro (And.intro (And.intro (And.intro @agg22 @agg24) (And.intro @agg3 (And.intro @agg5 @by3))) (And.intro (And.intro @by5 @fo24_2) (And.intro @inf22 (And.intro @inf24 @inf3)))) (And.intro (And.intro (And.intro @inf5 @sz22) (And.intro @sz24 (And.intro @sz3 @sz5))) (And.intro (And.intro @zero3 (And.intro @Try.underlying3 @Try.underlying5)) (And.intro @Try.underlying22 (And.intro @Try.underlying25 @Try.underlying42)))))
theorem fine36 (S M : Int) (a : Option Addr) (n c : Nat) (ws : List Wn) (h : Eng.Heap) (hr : Row h a (wsV ws)) (hn : n = ws.length) :
    CallsH Try.prog 36 #[.agg #[.int .i64 S, .int .i64 M, .slice a n c]] h (fun v h' => v = .bool (decide (chk S M ws = 0)) ∧ Ext h h') := by
  (refine CallsH_of_exec Try.func36 rfl bod36 ?_; simp only [Try.ntmps36, Try.results36, coreS, stK_some, splice, Value.cells, Value.oneCell', Nat.reduceAdd, Nat.reduceSub, Nat.reduceMul, Nat.reduceLeDiff, Int.reduceEq, Nat.reduceEqDiff, M15Fs36])
  have x0 : Ext h (h.push (.cells #[.int .i64 S, .int .i64 M, .slice a n c] 24)) := (Ext.refl h).push _
  refine CallsH.mono (great15 S M a n c _) ?_
  rintro v h1 ⟨rfl, x1⟩
  have hb1 := x1.get (push_new (h := h))
  have y1 := x0.trans x1
  by_cases hg : 20 < (n : Int)
  · have hc : ¬ chk S M ws = 0 := by unfold chk; rw [if_pos (.inr (.inr (by omega)))]; omega
    simp only [hg, hc, decide_true, decide_false, Bool.not_true, coreS, Value.cells, Value.oneCell', Nat.reduceAdd, Nat.reduceSub, Nat.reduceMul, Nat.reduceLeDiff, Int.reduceEq, Nat.reduceEqDiff, M15Fs36]
    exact y1
  · simp only [hg, hb1, decide_false, Bool.not_false, coreS, Value.cells, Value.oneCell', Nat.reduceAdd, Nat.reduceSub, Nat.reduceMul, Nat.reduceLeDiff, Int.reduceEq, Nat.reduceEqDiff, M15Fs36]
    refine CallsH.mono (check23 S M a n c ws h1 (hr.ext y1) hn (by omega)) ?_
    rintro v h2 ⟨rfl, x2⟩
    simp only [coreS, Value.cells, Value.oneCell', Nat.reduceAdd, Nat.reduceSub, Nat.reduceMul, Nat.reduceLeDiff, Int.reduceEq, Nat.reduceEqDiff, M15Fs36]
    exact y1.trans x2
theorem dysF_D {S M : Nat} {ws : List Wn} (V : Vb S M ws) : chkD S M ws (zsN (dysF ws)) = 0 ∧ difD S M ws (zsN (dysF ws)) = (gld ws : Nat) := by
  obtain ⟨d1, d2, d3, d4, d5⟩ := dysF_ok V
  have hG := gld_le V
  have hV := V.n
  have h1 : chkD S M ws (zsN (dysF ws)) = 0 := by
    unfold chkD
    rw [if_neg (by simpa using V.chk), if_neg (by rw [zsN_length, d2]; simp), if_neg, if_pos]
    · unfold rightD; rw [natL_zsN]; exact d3
    · have : inB 0 13 (zsN (dysF ws)) = true := inB_iff.2 fun x hx => by
        obtain ⟨y, hy, rfl⟩ := List.mem_map.1 hx
        have := d4 y hy
        omega
      rw [this]; simp
  refine ⟨h1, ?_⟩
  unfold difD
  rw [if_pos h1, natL_zsN, d5]
theorem few37 (S M : Nat) (a : Option Addr) (n c : Nat) (ws : List Wn) (h : Eng.Heap) (hr : Row h a (wsV ws)) (hn : n = ws.length) (V : Vb S M ws) :
    CallsH Try.prog 37 #[.agg #[.int .i64 S, .int .i64 M, .slice a n c]] h (fun v h' => (∃ q, v = .tuple #[.int .i64 (gld ws : Nat), .slice (some ⟨q, 0, none⟩) ws.length ws.length, .bool true] ∧ h.size ≤ q ∧ h'[q]? = some (.cells (Eng.ints (zsN (dysF ws))).toArray 3)) ∧ Ext h h') := by
  have hV := V.n
  obtain ⟨f1, f2⟩ := dysF_D V
  obtain ⟨d1, d2, d3, d4, d5⟩ := dysF_ok V
  (refine CallsH_of_exec Try.func37 rfl bod37 ?_; simp only [Try.ntmps37, Try.results37, coreS, stK_some, splice, Value.cells, Value.oneCell', Nat.reduceAdd, Nat.reduceSub, Nat.reduceMul, Nat.reduceLeDiff, Int.reduceEq, Nat.reduceEqDiff, M15Fs37])
  have x0 : Ext h (h.push (.cells #[.int .i64 S, .int .i64 M, .slice a n c] 24)) := (Ext.refl h).push _
  refine CallsH.mono (fewest47 S M a n c ws _ (hr.push _) hn (by omega)) ?_
  rintro v h1 ⟨rfl, x1⟩
  have hb1 := x1.get (push_new (h := h))
  have y1 := x0.trans x1
  simp only [V.chk, if_true, hb1, coreS, Value.cells, Value.oneCell', Nat.reduceAdd, Nat.reduceSub, Nat.reduceMul, Nat.reduceLeDiff, Int.reduceEq, Nat.reduceEqDiff, M15Fs37]
  refine CallsH.mono (days48 S M a n c ws h1 (hr.ext y1) hn (by omega)) ?_
  rintro v h2 ⟨D, x2⟩
  obtain ⟨q, rfl, hq, hz⟩ := D.ok V.chk
  have hb2 := x2.get hb1
  have y2 := y1.trans x2
  have I2 : IntsV h2 (some ⟨q, 0, none⟩) ws.length (zsN (dysF ws)) := by
    have := IntsV.block (xs := zsN (dysF ws)) hz
    rwa [zsN_length, d2] at this
  simp only [hb2, decide_true, Bool.not_true, coreS, Value.cells, Value.oneCell', Nat.reduceAdd, Nat.reduceSub, Nat.reduceMul, Nat.reduceLeDiff, Int.reduceEq, Nat.reduceEqDiff, M15Fs37]
  refine CallsH.mono (checkDays20 S M a n c ws _ ws.length ws.length _ h2 (hr.ext y2) hn (by omega) I2 (by omega)) ?_
  rintro v h3 ⟨rfl, x3⟩
  rw [f1, f2]
  have y3 := y2.trans x3
  simp only [x3.get hb2, coreS, Value.cells, Value.oneCell', Nat.reduceAdd, Nat.reduceSub, Nat.reduceMul, Nat.reduceLeDiff, Int.reduceEq, Nat.reduceEqDiff, M15Fs37]
  refine CallsH.mono (checkDays21 S M a n c ws _ ws.length ws.length _ h3 (hr.ext y3) hn (by omega) (I2.ext x3) (by omega) (Nat.le_refl _)) ?_
  rintro v h4 ⟨rfl, x4⟩
  rw [f1, f2]
  have y4 := y3.trans x4
  simp only [decide_true, coreS, Value.cells, Value.oneCell', Nat.reduceAdd, Nat.reduceSub, Nat.reduceMul, Nat.reduceLeDiff, Int.reduceEq, Nat.reduceEqDiff, M15Fs37]
  have := y1.size
  exact ⟨⟨q, rfl, by omega, x4.get (x3.get hz)⟩, y4⟩
theorem cellB {h : Eng.Heap} {a : Option Addr} {xs : List Int} (hr : Row h a (bytesV xs)) {j : Nat} (hj : j < xs.length) : cellH h (eltP a j) = some (.int .u8 (xs.getD j 0)) := by
  have := hr.cell (j := j) (by rw [bytesV_length]; exact hj)
  rw [this, bytesV_get]
  simp [List.getD, hj]
theorem given38 (S M : Nat) (a : Option Addr) (n c : Nat) (ws : List Wn) (b : Option Addr) (m k : Nat) (by_ : List Int) (h : Eng.Heap) (hr : Row h a (wsV ws)) (hn : n = ws.length) (V : Vb S M ws) (hb : Row h b (bytesV by_)) (hm : m = by_.length) (hby : ∀ x ∈ by_, 0 ≤ x ∧ x ≤ 255) (hml : m ≤ 1000) :
    CallsH Try.prog 38 #[.agg #[.int .i64 S, .int .i64 M, .slice a n c], .slice b m k] h (fun v h' => (∃ G cap a', v = .slice a' n cap ∧ OwnI h.size h' 3 a' n cap (zsN G) ∧ G.length = n ∧ MB.rightL (shN ws) (moN ws) G ∧ ∀ x ∈ G, x < 14) ∧ Ext h h') := by
  have hV := V.n
  (refine CallsH_of_exec Try.func38 rfl bod38 ?_; simp only [Try.ntmps38, Try.results38, coreS, stK_some, splice, Value.cells, Value.oneCell', Nat.reduceAdd, Nat.reduceSub, Nat.reduceMul, Nat.reduceLeDiff, Int.reduceEq, Nat.reduceEqDiff, M15Fs38])
  have x0 : Ext h (h.push (.cells #[.int .i64 S, .int .i64 M, .slice a n c] 24)) := (Ext.refl h).push _
  have hb0 := push_new (h := h) (o := .cells #[.int .i64 S, .int .i64 M, .slice a n c] 24)
  have hs0 : h.size < (h.push (.cells #[.int .i64 S, .int .i64 M, .slice a n c] 24)).size := by simp
  generalize h.push (.cells #[.int .i64 S, .int .i64 M, .slice a n c] 24) = hh at x0 hb0 hs0 ⊢
  refine WP_loopI [5, 6, 7, 8, 9, 10, 11, 12, 13, 14, 15, 16, 17, 18, 19, 20, 21, 22, 23, 24, 25, 26, 27, 28, 29, 30, 31, 32, 33, 34, 35, 36, 37, 38, 39, 40, 41, 42, 43, 44, 45, 46, 47, 48, 49, 50, 51] (fun e h' => Ext hh h' ∧ ∃ i G cap a', i ≤ n ∧ e 6 = .int .i64 (i : Nat) ∧ e 5 = .slice a' i cap ∧ OwnI hh.size h' 3 a' i cap (zsN G) ∧ G.length = i ∧ MB.rightL (shN ws) (moN ws) G ∧ ∀ x ∈ G, x < 14) (fun e _ => match e 6 with | .int _ q => n - q.toNat | _ => 0) ⟨Ext.refl _, 0, [], 0, none, by omega, rfl, rfl, OwnI.nil _ _ _, rfl, fun a b ha => by simp at ha, by simp⟩ ?_
  rintro e h1 ⟨x1, i, G, cap, a', hi, he, he5, O, hG, hR, hlt14⟩
  have hb1 := x1.get hb0
  have y1 := x0.trans x1
  by_cases hin : i < n
  · have hlt : (i : Int) < (n : Int) := by omega
    obtain ⟨tb, htb⟩ : ∃ tb, decide ((0 : Int) < (m : Int)) = tb := ⟨_, rfl⟩
    simp only [he, hb1, hlt, htb, decide_true, coreS, Value.cells, Value.oneCell', Nat.reduceAdd, Nat.reduceSub, Nat.reduceMul, Nat.reduceLeDiff, Int.reduceEq, Nat.reduceEqDiff, M15Fs38]
    refine cd_cut [7, 18, 19, 20, 21, 22, 23, 24, 25, 26, 27] (fun g h' => h' = h1 ∧ ∃ a0 : Nat, a0 < 14 ∧ g 7 = .int .i64 a0) ?_ ?_
    · cases tb with
      | false =>
        simp only [coreS, Value.cells, Value.oneCell', Nat.reduceAdd, Nat.reduceSub, Nat.reduceMul, Nat.reduceLeDiff, Int.reduceEq, Nat.reduceEqDiff, M15Fs38]
        exact midK_mk (by kernel_rfl) ⟨rfl, 0, by omega, rfl⟩
      | true =>
        have hm0 : (0 : Int) < (m : Int) := of_decide_eq_true htb
        have him : i % m < m := Nat.mod_lt _ (by omega)
        have e1 : Int.tmod (i : Int) (m : Int) = ((i % m : Nat) : Int) := (Int.ofNat_tmod i m).symm
        have cb := cellB (hb.ext y1) (j := i % m) (by omega)
        have hbd := hby (by_.getD (i % m) 0) (by
          have : i % m < by_.length := by omega
          simp [List.getD, List.getElem?_eq_getElem this])
        obtain ⟨y, hy⟩ : ∃ y : Nat, by_.getD (i % m) 0 = y := ⟨(by_.getD (i % m) 0).toNat, by omega⟩
        rw [hy] at cb hbd
        have e2 : Int.tmod (y : Int) 14 = ((y % 14 : Nat) : Int) := (Int.ofNat_tmod y 14).symm
        have hsb : b.isSome = true := hb.isSome (by rw [bytesV_length]; omega)
        simp only [he, e1, cb, e2, Int.toNat_natCast, coreS, Value.cells, Value.oneCell', Nat.reduceAdd, Nat.reduceSub, Nat.reduceMul, Nat.reduceLeDiff, Int.reduceEq, Nat.reduceEqDiff, M15Fs38]
        refine ⟨by omega, ⟨by omega, by omega⟩, hsb, by rw [inK_i64]; omega, by omega, ?_⟩
        exact midK_mk (by kernel_rfl) ⟨rfl, y % 14, Nat.mod_lt _ (by omega), rfl⟩
    rintro g2 h2 ⟨rfl, a0, ha0, hg7⟩
    obtain ⟨C, hC⟩ : ∃ C : Nat → Nat, C = fun t => G.getD t 0 := ⟨_, rfl⟩
    have hCd : ∀ t, t < i → (zsN G).getD t 0 = (C t : Nat) := fun t ht => by
      rw [hC]
      simp only [zsN, List.getD_eq_getElem?_getD, List.getElem?_map]
      cases G[t]? <;> rfl
    have hzl : (zsN G).length = i := by rw [zsN_length, hG]
    simp only [hg7, coreS, Value.cells, Value.oneCell', Nat.reduceAdd, Nat.reduceSub, Nat.reduceMul, Nat.reduceLeDiff, Int.reduceEq, Nat.reduceEqDiff, M15Fs38]
    refine WP_loopI [7, 8, 28, 29, 30, 31, 32, 33, 34, 35, 36, 37, 38, 39, 40, 41, 42, 43, 44, 45, 46, 47] (fun e h' => Ext h2 h' ∧ ∃ j kk : Nat, j ≤ 13 ∧ kk ≤ i ∧ e 7 = .int .i64 ((a0 + j) % 14 : Nat) ∧ e 8 = .int .i64 kk ∧ (∀ x, x < j → ∃ t, t < i ∧ C t = (a0 + x) % 14) ∧ ∀ t, t < kk → C t = (a0 + j) % 14 → shN ws t ≠ shN ws i ∧ moN ws t ≠ moN ws i) (fun e _ => match e 7, e 8 with | .int _ d, .int _ kk => (13 - ((d.toNat + 14 - a0) % 14)) * 15 + (i - kk.toNat) | _, _ => 0) ⟨Ext.refl _, 0, 0, by omega, by omega, by rw [Nat.add_zero, Nat.mod_eq_of_lt ha0]; rfl, rfl, fun x hx => by omega, fun t ht => by omega⟩ ?_
    rintro e3 h3 ⟨x3, j, kk, hj, hkk, he7, he8, hbl, hno⟩
    have y3 := y1.trans x3
    have ejx : ((a0 + j) % 14 + 14 - a0) % 14 = j := by omega
    by_cases hki : kk < i
    · have hlt3 : (kk : Int) < (i : Int) := by omega
      have O3 := O.ext x3
      have cg := O3.ints.cell (j := kk) (by omega)
      rw [hCd kk hki] at cg
      have hsa : a'.isSome = true := O3.ints.isSome (by omega)
      have hb3 := x3.get hb1
      have stay : ∀ h4, Ext h2 h4 → (C kk = (a0 + j) % 14 → shN ws kk ≠ shN ws i ∧ moN ws kk ≠ moN ws i) → (∀ t, t < kk + 1 → C t = (a0 + j) % 14 → shN ws t ≠ shN ws i ∧ moN ws t ≠ moN ws i) := fun h4 x4 hh t ht et => by
        by_cases h : t = kk
        · subst h; exact hh et
        · exact hno t (by omega) et
      by_cases hcc : ((C kk : Nat) : Int) = (((a0 + j) % 14 : Nat) : Int)
      · simp only [he, he5, he7, he8, hlt3, cg, hcc, hb3, decide_true, Int.toNat_natCast, coreS, Value.cells, Value.oneCell', Nat.reduceAdd, Nat.reduceSub, Nat.reduceMul, Nat.reduceLeDiff, Int.reduceEq, Nat.reduceEqDiff, M15Fs38]
        refine ⟨by omega, hsa, ?_⟩
        refine CallsH.mono (clash79 S M a n c ws i kk h3 (hr.ext y3) hn V (by omega) (by omega)) ?_
        rintro v h4 ⟨rfl, x4⟩
        cases hcl : MB.clash (shN ws) (moN ws) i kk with
        | true =>
          have e4 : Int.tmod ((((a0 + j) % 14 : Nat) : Int) + 1) 14 = (((a0 + (j + 1)) % 14 : Nat) : Int) := by
            rw [show ((((a0 + j) % 14 : Nat) : Int) + 1) = (((a0 + j) % 14 + 1 : Nat) : Int) by omega, show (14 : Int) = ((14 : Nat) : Int) by rfl, ← Int.ofNat_tmod]
            congr 1
            omega
          have hbl2 : ∀ x, x < j + 1 → ∃ t, t < i ∧ C t = (a0 + x) % 14 := fun x hx => by
            by_cases h : x = j
            · subst h; exact ⟨kk, hki, by omega⟩
            · exact hbl x (by omega)
          have hgb := MB.given_bound (c := C) (a := a0) (i := i) (j := j + 1) (by omega) hbl2
          simp only [he7, he8, e4, coreS, Value.cells, Value.oneCell', Nat.reduceAdd, Nat.reduceSub, Nat.reduceMul, Nat.reduceLeDiff, Int.reduceEq, Nat.reduceEqDiff, M15Fs38]
          refine ⟨by rw [inK_i64]; omega, by omega, by rw [inK_i64]; omega, roundK_mk (by kernel_rfl) ⟨x3.trans x4, j + 1, 0, by omega, by omega, rfl, rfl, hbl2, fun t ht => by omega⟩ ?_⟩
          show (13 - (((((a0 + (j + 1)) % 14 : Nat) : Int).toNat + 14 - a0) % 14)) * 15 + (i - ((-1 : Int) + 1).toNat) < (13 - (((((a0 + j) % 14 : Nat) : Int).toNat + 14 - a0) % 14)) * 15 + (i - (kk : Int).toNat)
          have ejx2 : ((a0 + (j + 1)) % 14 + 14 - a0) % 14 = j + 1 := by omega
          rw [Int.toNat_natCast, Int.toNat_natCast, Int.toNat_natCast, ejx, ejx2]
          omega
        | false =>
          have h5 := MB.clash_no.1 hcl
          simp only [he7, he8, coreS, Value.cells, Value.oneCell', Nat.reduceAdd, Nat.reduceSub, Nat.reduceMul, Nat.reduceLeDiff, Int.reduceEq, Nat.reduceEqDiff, M15Fs38]
          refine ⟨by rw [inK_i64]; omega, roundK_mk (by kernel_rfl) ⟨x3.trans x4, j, kk + 1, by omega, by omega, rfl, rfl, hbl, stay _ (x3.trans x4) fun _ => ⟨fun e => h5.1 e.symm, fun e => h5.2 e.symm⟩⟩ ?_⟩
          show (13 - (((((a0 + j) % 14 : Nat) : Int).toNat + 14 - a0) % 14)) * 15 + (i - ((kk : Int) + 1).toNat) < (13 - (((((a0 + j) % 14 : Nat) : Int).toNat + 14 - a0) % 14)) * 15 + (i - (kk : Int).toNat)
          omega
      · simp only [he, he5, he7, he8, hlt3, cg, hcc, decide_true, decide_false, Int.toNat_natCast, coreS, Value.cells, Value.oneCell', Nat.reduceAdd, Nat.reduceSub, Nat.reduceMul, Nat.reduceLeDiff, Int.reduceEq, Nat.reduceEqDiff, M15Fs38]
        refine ⟨by omega, hsa, by rw [inK_i64]; omega, roundK_mk (by kernel_rfl) ⟨x3, j, kk + 1, by omega, by omega, rfl, rfl, hbl, stay _ x3 fun h => absurd (by rw [h]) hcc⟩ ?_⟩
        show (13 - (((((a0 + j) % 14 : Nat) : Int).toNat + 14 - a0) % 14)) * 15 + (i - ((kk : Int) + 1).toNat) < (13 - (((((a0 + j) % 14 : Nat) : Int).toNat + 14 - a0) % 14)) * 15 + (i - (kk : Int).toNat)
        omega
    · obtain rfl : kk = i := by omega
      have hlt3 : ¬ ((kk : Int) < (kk : Int)) := by omega
      simp only [he, he5, he7, he8, hlt3, decide_false, splice, coreS, Value.cells, Value.oneCell', Nat.reduceAdd, Nat.reduceSub, Nat.reduceMul, Nat.reduceLeDiff, Int.reduceEq, Nat.reduceEqDiff, M15Fs38]
      have O4 := (O.ext x3).ext ((Ext.refl h3).push (.cells #[.int .i64 ((a0 + j) % 14 : Nat)] 3))
      have hhs := y1.size
      have hxs := x1.size
      have hxs3 := x3.size
      refine app25 rfl rfl O4 (by rw [push_size]; omega) (intsV_one push_new) (by omega) fun a2 cap2 h5 O5 A => ?_
      have x5 : Ext hh h5 := A.extN O4 ((x1.trans x3).push _) (Nat.le_refl _)
      simp only [he, coreS, Value.cells, Value.oneCell', Nat.reduceAdd, Nat.reduceSub, Nat.reduceMul, Nat.reduceLeDiff, Int.reduceEq, Nat.reduceEqDiff, M15Fs38]
      refine ⟨by rw [inK_i64]; omega, roundK_mk (by kernel_rfl) ⟨x5, kk + 1, G ++ [(a0 + j) % 14], cap2, a2, by omega, rfl, rfl, ?_, by simp [hG], ?_, ?_⟩ ?_⟩
      · have : zsN (G ++ [(a0 + j) % 14]) = zsN G ++ [(((a0 + j) % 14 : Nat) : Int)] := by simp [zsN]
        rw [this]
        exact O5
      · refine MB.right_snoc hR (MB.fit_iff.2 fun t ht et => ?_)
        rw [hG] at ht ⊢
        exact hno t ht (by rw [hC]; exact et)
      · intro x hx
        rcases List.mem_append.1 hx with hx | hx
        · exact hlt14 x hx
        · rw [List.mem_singleton.1 hx]; exact Nat.mod_lt _ (by omega)
      · show n - ((kk : Int) + 1).toNat < n - (kk : Int).toNat
        omega
  · obtain rfl : i = n := by omega
    have hlt : ¬ ((i : Int) < (i : Int)) := by omega
    simp only [he, he5, hb1, hlt, decide_false, coreS, Value.cells, Value.oneCell', Nat.reduceAdd, Nat.reduceSub, Nat.reduceMul, Nat.reduceLeDiff, Int.reduceEq, Nat.reduceEqDiff, M15Fs38]
    exact ⟨⟨G, cap, a', rfl, O.mono (by omega), hG, hR, hlt14⟩, y1⟩
end Go.Proofs.Ytmgkeeefbfefgaa
