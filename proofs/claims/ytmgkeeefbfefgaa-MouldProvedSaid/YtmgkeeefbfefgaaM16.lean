/- MouldProved returns true. -/
import Derived.Test.YtmgkeeefbfefgaaM12
import Derived.Test.YtmgkeeefbfefgaaM15
namespace Go.Proofs.Ytmgkeeefbfefgaa
open Go Go.Proofs Go.Eng Go.Run Tab
set_option maxRecDepth 100000
set_option linter.unusedSimpArgs false
set_option linter.unusedVariables false
set_option linter.defProp false
set_option maxHeartbeats 2000000
set_option linter.defProp false
def M16Fs6 := (And.intro (And.intro (And.intro @agg24 (And.intro @agg3 @by3)) (And.intro @fo24_0 (And.intro @fo24_1 @inf24))) (And.intro (And.intro @inf3 (And.intro @sz24 @sz3)) (And.intro @Try.underlying3 (And.intro @Try.underlying25 @Try.underlying42))))
theorem gld_fold {S M : Nat} {ws : List Wn} (V : Vb S M ws) : (ldL (moN ws) M ws.length).foldl up1 ((ldL (shN ws) S ws.length).foldl up1 0) = (gld ws : Nat) := by
  have G := gld_great V
  obtain ⟨a1, a2, a3⟩ := fold_up (ldL (shN ws) S ws.length) 0
  obtain ⟨b1, b2, b3⟩ := fold_up (ldL (moN ws) M ws.length) ((ldL (shN ws) S ws.length).foldl up1 0)
  have hle : (ldL (moN ws) M ws.length).foldl up1 ((ldL (shN ws) S ws.length).foldl up1 0) ≤ (gld ws : Nat) := by
    rcases b3 with b3 | b3
    · rw [b3]
      rcases a3 with a3 | a3
      · rw [a3]; omega
      · obtain ⟨x, _, e⟩ := mem_ldL a3
        rw [e]
        have := G.sle x
        omega
    · obtain ⟨x, _, e⟩ := mem_ldL b3
      rw [e]
      have := G.mle x
      omega
  refine Int.le_antisymm hle ?_
  rcases G.is with h | ⟨s, h⟩ | ⟨s, h⟩
  · rw [h]; omega
  · by_cases h0 : 0 < MB.load (shN ws) ws.length s
    · obtain ⟨i, hi, rfl⟩ := MB.pos_load h0
      have := a2 _ (ldL_mem (f := shN ws) (S := S) (i := ws.length) (V.s hi).2)
      omega
    · omega
  · by_cases h0 : 0 < MB.load (moN ws) ws.length s
    · obtain ⟨i, hi, rfl⟩ := MB.pos_load h0
      have := b2 _ (ldL_mem (f := moN ws) (S := M) (i := ws.length) (V.m hi).2)
      omega
    · omega
theorem fold_next {l : List Int} {i : Nat} {o : Int} (hi : i < l.length) : (l.take (i + 1)).foldl up1 o = up1 ((l.take i).foldl up1 o) (l.getD i 0) := by
  rw [List.take_add_one, List.getElem?_eq_getElem hi, List.foldl_append]
  simp only [Option.toList_some, List.foldl_cons, List.foldl_nil]
  rw [List.getD_eq_getElem?_getD, List.getElem?_eq_getElem hi]
  rfl
/-- Given days, for CheckDays. -/
theorem given_D {S M : Nat} {ws : List Wn} {G : List Nat} (V : Vb S M ws) (hl : G.length = ws.length) (hR : MB.rightL (shN ws) (moN ws) G) (h14 : ∀ x ∈ G, x < 14) : chkD S M ws (zsN G) = 0 ∧ difD S M ws (zsN G) = (MB.dif G : Nat) := by
  have h1 : chkD S M ws (zsN G) = 0 := by
    unfold chkD
    rw [if_neg (by simpa using V.chk), if_neg (by rw [zsN_length, hl]; simp), if_neg, if_pos]
    · unfold rightD; rw [natL_zsN]; exact hR
    · have : inB 0 13 (zsN G) = true := inB_iff.2 fun x hx => by
        obtain ⟨y, hy, rfl⟩ := List.mem_map.1 hx
        have := h14 y hy
        omega
      rw [this]; simp
  refine ⟨h1, ?_⟩
  unfold difD
  rw [if_pos h1, natL_zsN]
theorem gld_dif {S M : Nat} {ws : List Wn} {G : List Nat} (V : Vb S M ws) (hl : G.length = ws.length) (hR : MB.rightL (shN ws) (moN ws) G) : gld ws ≤ MB.dif G := by
  rcases (gld_great V).is with h | ⟨s, h⟩ | ⟨s, h⟩
  · omega
  · have := (MB.load_dif hR s).1
    rw [hl] at this; omega
  · have := (MB.load_dif hR s).2
    rw [hl] at this; omega
theorem proved6 (S M : Int) (a : Option Addr) (n c : Nat) (ws : List Wn) (b : Option Addr) (m k : Nat) (by_ : List Int) (h : Eng.Heap) (hr : Row h a (wsV ws)) (hn : n = ws.length) (hb : Row h b (bytesV by_)) (hm : m = by_.length) (hby : ∀ x ∈ by_, 0 ≤ x ∧ x ≤ 255) :
    CallsH Try.prog 6 #[.agg #[.int .i64 S, .int .i64 M, .slice a n c], .slice b m k] h (fun v h' => v = .bool true ∧ Ext h h') := by
  (refine CallsH_of_exec Try.func6 rfl bod6 ?_; simp only [Try.ntmps6, Try.results6, coreS, stK_some, splice, Value.cells, Value.oneCell', Nat.reduceAdd, Nat.reduceSub, Nat.reduceMul, Nat.reduceLeDiff, Int.reduceEq, Nat.reduceEqDiff, M16Fs6])
  have x0 : Ext h (h.push (.cells #[.int .i64 S, .int .i64 M, .slice a n c] 24)) := (Ext.refl h).push _
  have hb0 := push_new (h := h) (o := .cells #[.int .i64 S, .int .i64 M, .slice a n c] 24)
  generalize h.push (.cells #[.int .i64 S, .int .i64 M, .slice a n c] 24) = hh at x0 hb0 ⊢
  refine CallsH.mono (fine36 S M a n c ws hh (hr.ext x0) hn) ?_
  rintro v h1 ⟨rfl, x1⟩
  have out : ∀ h1, Ext h h1 → CallsH Try.prog 17 #[] h1 (fun v h' => v = .bool true ∧ Ext h h') := fun h1 x => CallsH.mono (works17 h1) fun v h' q => ⟨q.1, x.trans q.2⟩
  have y1 := x0.trans x1
  by_cases hc : chk S M ws = 0
  case neg =>
    simp only [hc, decide_false, Bool.not_false, coreS, Value.cells, Value.oneCell', Nat.reduceAdd, Nat.reduceSub, Nat.reduceMul, Nat.reduceLeDiff, Int.reduceEq, Nat.reduceEqDiff, M16Fs6]
    refine CallsH.mono (out _ y1) ?_
    rintro v h2 ⟨rfl, x2⟩
    simp only [coreS, Value.cells, Value.oneCell', Nat.reduceAdd, Nat.reduceSub, Nat.reduceMul, Nat.reduceLeDiff, Int.reduceEq, Nat.reduceEqDiff, M16Fs6]
    exact x2
  by_cases hl : 40 < (m : Int)
  · simp only [hc, hl, decide_true, Bool.not_true, coreS, Value.cells, Value.oneCell', Nat.reduceAdd, Nat.reduceSub, Nat.reduceMul, Nat.reduceLeDiff, Int.reduceEq, Nat.reduceEqDiff, M16Fs6]
    refine CallsH.mono (out _ y1) ?_
    rintro v h2 ⟨rfl, x2⟩
    simp only [coreS, Value.cells, Value.oneCell', Nat.reduceAdd, Nat.reduceSub, Nat.reduceMul, Nat.reduceLeDiff, Int.reduceEq, Nat.reduceEqDiff, M16Fs6]
    exact x2
  obtain ⟨s, mm, rfl, rfl, V⟩ := chk_ok hc
  have hV := V.n
  have hb1 := x1.get hb0
  simp only [hc, hl, hb1, decide_true, decide_false, Bool.not_true, coreS, Value.cells, Value.oneCell', Nat.reduceAdd, Nat.reduceSub, Nat.reduceMul, Nat.reduceLeDiff, Int.reduceEq, Nat.reduceEqDiff, M16Fs6]
  refine CallsH.mono (few37 s mm a n c ws h1 (hr.ext y1) hn V) ?_
  rintro v h2 ⟨⟨q, rfl, hq, hz⟩, x2⟩
  have hb2 := x2.get hb1
  have y2 := y1.trans x2
  simp only [hb2, coreS, Value.cells, Value.oneCell', Nat.reduceAdd, Nat.reduceSub, Nat.reduceMul, Nat.reduceLeDiff, Int.reduceEq, Nat.reduceEqDiff, M16Fs6]
  refine CallsH.mono (loads18 s mm a n c ws h2 (hr.ext y2) hn (by omega)) ?_
  rintro v h3 ⟨L1, x3⟩
  obtain ⟨p1, p2, rfl, _, _, _, l1, l2⟩ := L1.ok s mm rfl rfl V
  have hb3 := x3.get hb2
  have y3 := y2.trans x3
  simp only [coreS, Value.cells, Value.oneCell', Nat.reduceAdd, Nat.reduceSub, Nat.reduceMul, Nat.reduceLeDiff, Int.reduceEq, Nat.reduceEqDiff, M16Fs6]
  refine WP_cut [11, 12, 37, 38, 39, 40, 41, 42, 43, 44] (fun g h' => Ext h3 h' ∧ ∃ dd : Nat, gld ws ≤ dd ∧ g 11 = .int .i64 dd ∧ g 12 = .int .i64 0) ?_ ?_
  · refine WP_tree (by kernel_rfl) sta_ext (.quiet 0 (.quiet 1 (.quiet 2 (.keep 3 (.keep 4 (.quiet 5 (.quiet 6 (.quiet 7 (.quiet 8 (.quiet 9 (.fin))))))))))) (by kernel_rfl) rfl (by kernel_rfl) ?_
    simp only [hb3, coreS, Value.cells, Value.oneCell', Nat.reduceAdd, Nat.reduceSub, Nat.reduceMul, Nat.reduceLeDiff, Int.reduceEq, Nat.reduceEqDiff, drawS, treeS, M16Fs6]
    refine execT_keep fun h4 x4 => ?_
    have y4 := y3.trans x4
    simp only [coreS, Value.cells, Value.oneCell', Nat.reduceAdd, Nat.reduceSub, Nat.reduceMul, Nat.reduceLeDiff, Int.reduceEq, Nat.reduceEqDiff, drawS, treeS, M16Fs6]
    refine CallsH.mono (given38 s mm a n c ws b m k by_ h4 (hr.ext y4) hn V (hb.ext y4) hm hby (by omega)) ?_
    rintro v h5 ⟨⟨G, cap, a', rfl, O, hG, hR, h14⟩, x5⟩
    refine ⟨x5, ?_⟩
    refine execT_keep fun h6 x6 => ?_
    have y6 := (y4.trans x5).trans x6
    simp only [coreS, Value.cells, Value.oneCell', Nat.reduceAdd, Nat.reduceSub, Nat.reduceMul, Nat.reduceLeDiff, Int.reduceEq, Nat.reduceEqDiff, drawS, treeS, M16Fs6]
    refine CallsH.mono (checkDays20 s mm a n c ws a' n cap (zsN G) h6 (hr.ext y6) hn (by omega) ((O.ext x6).ints) (by omega)) ?_
    rintro v h7 ⟨rfl, x7⟩
    refine ⟨x7, ?_⟩
    obtain ⟨g1, g2⟩ := given_D V (by omega) hR h14
    rw [g1, g2]
    simp only [coreS, Value.cells, Value.oneCell', Nat.reduceAdd, Nat.reduceSub, Nat.reduceMul, Nat.reduceLeDiff, Int.reduceEq, Nat.reduceEqDiff, drawS, treeS, M16Fs6]
    refine execT_fin fun h8 x8 => ?_
    simp only [thenK_normal]
    exact midK_mk (by kernel_rfl) ⟨((((x4.trans x5).trans x6).trans x7).trans x8), MB.dif G, gld_dif V (by omega) hR, rfl, rfl⟩
  · rintro g h4 ⟨x4, dd, hdd, h11, h12⟩
    have hb4 := x4.get hb3
    have y4 := y3.trans x4
    have hnl : ¬ ((dd : Int) < ((gld ws : Nat) : Int)) := by omega
    simp only [h11, h12, hb4, hnl, decide_true, decide_false, Bool.not_true, coreS, Value.cells, Value.oneCell', Nat.reduceAdd, Nat.reduceSub, Nat.reduceMul, Nat.reduceLeDiff, Int.reduceEq, Nat.reduceEqDiff, M16Fs6]
    have i1 : IntsV h4 (some ⟨p1, 0, none⟩) s (ldL (shN ws) s ws.length) := by
      have := IntsV.block (xs := ldL (shN ws) s ws.length) (x4.get l1)
      rwa [ldL_length] at this
    have i2 : IntsV h4 (some ⟨p2, 0, none⟩) mm (ldL (moN ws) mm ws.length) := by
      have := IntsV.block (xs := ldL (moN ws) mm ws.length) (x4.get l2)
      rwa [ldL_length] at this
    have s1 : (ldL (shN ws) s ws.length).length = s := ldL_length
    have s2 : (ldL (moN ws) mm ws.length).length = mm := ldL_length
    refine WP_loopI [13, 14, 74, 75, 76, 77, 78, 79, 80, 81, 82, 83, 84, 85] (fun e h' => h' = h4 ∧ ∃ i : Nat, i ≤ s ∧ e 14 = .int .i64 i ∧ e 13 = .int .i64 (((ldL (shN ws) s ws.length).take i).foldl up1 0)) (fun e _ => match e 14 with | .int _ q => s - q.toNat | _ => 0) ⟨rfl, 0, by omega, rfl, rfl⟩ ?_
    rintro e h' ⟨rfl, i, hi, he, he13⟩
    by_cases hil : i < s
    · have hlt : (i : Int) < (s : Int) := by omega
      have c1 := i1.cell (j := i) (by omega)
      rw [eltP_some, cellH_eq, Nat.zero_add] at c1
      simp only [he, he13, hlt, c1, decide_true, Int.toNat_natCast, coreS, Value.cells, Value.oneCell', Nat.reduceAdd, Nat.reduceSub, Nat.reduceMul, Nat.reduceLeDiff, Int.reduceEq, Nat.reduceEqDiff, M16Fs6]
      refine ⟨by omega, rfl, by rw [inK_i64]; have := V.s2; omega, roundK_mk (by kernel_rfl) ⟨rfl, i + 1, by omega, rfl, ?_⟩ ?_⟩
      · rw [fold_next (by omega)]; rfl
      · show s - ((i : Int) + 1).toNat < s - (i : Int).toNat
        omega
    obtain rfl : i = s := by omega
    have hlt : ¬ ((i : Int) < (i : Int)) := by omega
    rw [List.take_of_length_le (by omega)] at he13
    simp only [he, he13, hlt, decide_false, coreS, Value.cells, Value.oneCell', Nat.reduceAdd, Nat.reduceSub, Nat.reduceMul, Nat.reduceLeDiff, Int.reduceEq, Nat.reduceEqDiff, M16Fs6]
    refine WP_loopI [13, 15, 86, 87, 88, 89, 90, 91, 92, 93, 94, 95, 96, 97] (fun e h2 => h2 = h' ∧ ∃ j : Nat, j ≤ mm ∧ e 15 = .int .i64 j ∧ e 13 = .int .i64 (((ldL (moN ws) mm ws.length).take j).foldl up1 ((ldL (shN ws) i ws.length).foldl up1 0))) (fun e _ => match e 15 with | .int _ q => mm - q.toNat | _ => 0) ⟨rfl, 0, by omega, rfl, rfl⟩ ?_
    rintro e2 h'' ⟨rfl, j, hj, he2, he213⟩
    by_cases hjl : j < mm
    · have hlt2 : (j : Int) < (mm : Int) := by omega
      have c1 := i2.cell (j := j) (by omega)
      rw [eltP_some, cellH_eq, Nat.zero_add] at c1
      simp only [he2, he213, hlt2, c1, decide_true, Int.toNat_natCast, coreS, Value.cells, Value.oneCell', Nat.reduceAdd, Nat.reduceSub, Nat.reduceMul, Nat.reduceLeDiff, Int.reduceEq, Nat.reduceEqDiff, M16Fs6]
      refine ⟨by omega, rfl, by rw [inK_i64]; have := V.m2; omega, roundK_mk (by kernel_rfl) ⟨rfl, j + 1, by omega, rfl, ?_⟩ ?_⟩
      · rw [fold_next (by omega)]; rfl
      · show mm - ((j : Int) + 1).toNat < mm - (j : Int).toNat
        omega
    obtain rfl : j = mm := by omega
    have hlt2 : ¬ ((j : Int) < (j : Int)) := by omega
    rw [List.take_of_length_le (by omega), gld_fold V] at he213
    simp only [he2, he213, hlt2, decide_true, decide_false, coreS, Value.cells, Value.oneCell', Nat.reduceAdd, Nat.reduceSub, Nat.reduceMul, Nat.reduceLeDiff, Int.reduceEq, Nat.reduceEqDiff, M16Fs6]
    refine CallsH.mono (out _ y4) ?_
    rintro v h5 ⟨rfl, x5⟩
    simp only [coreS, Value.cells, Value.oneCell', Nat.reduceAdd, Nat.reduceSub, Nat.reduceMul, Nat.reduceLeDiff, Int.reduceEq, Nat.reduceEqDiff, M16Fs6]
    exact x5
end Go.Proofs.Ytmgkeeefbfefgaa
