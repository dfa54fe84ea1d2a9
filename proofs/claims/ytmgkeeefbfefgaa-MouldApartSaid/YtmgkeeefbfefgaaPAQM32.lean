/- MouldApart returns true. -/
import Derived.Test.YtmgkeeefbfefgaaPA12
import Derived.Test.YtmgkeeefbfefgaaPAQWork
namespace Go.Proofs.Ytmgkeeefbfefgaa
open Go Go.Proofs Go.Eng Go.Run Tab
set_option maxRecDepth 100000
set_option linter.unusedSimpArgs false
set_option linter.unusedVariables false
set_option linter.defProp false
set_option maxHeartbeats 8000000
set_option linter.defProp false
def M32Fs13 := (And.intro (And.intro (And.intro (And.intro @agg22 (And.intro @agg24 @agg3)) (And.intro (And.intro @by58 @fo24_0) (And.intro @fo24_1 @fo24_2))) (And.intro (And.intro @fo58_0 (And.intro @fo58_1 @fps24_0)) (And.intro (And.intro @fps24_1 @fps24_2) (And.intro @fps58_0 @fps58_1)))) (And.intro (And.intro (And.intro @inf22 (And.intro @inf24 @inf3)) (And.intro (And.intro @inf58 @okf24) (And.intro @okf58 @sz22))) (And.intro (And.intro (And.intro @sz24 @sz3) (And.intro @sz58 @zero24)) (And.intro (And.intro @zero58 @Try.underlying3) (And.intro @Try.underlying22 @Try.underlying25)))))
theorem load_eq {f g : Nat → Nat} {n x : Nat} (h : ∀ i, i < n → f i = g i) : MB.load f n x = MB.load g n x := MB.cnt_congr fun i hi => by rw [h i hi]
theorem Great_eq {f f' g g' : Nat → Nat} {n D : Nat} (hf : ∀ i, i < n → f i = f' i) (hg : ∀ i, i < n → g i = g' i) (G : MB.Great f g n D) : MB.Great f' g' n D :=
  ⟨fun s => by rw [← load_eq hf]; exact G.sle s, fun m => by rw [← load_eq hg]; exact G.mle m, by
    rcases G.is with h | ⟨s, h⟩ | ⟨s, h⟩
    · exact .inl h
    · exact .inr (.inl ⟨s, by rw [← load_eq hf]; exact h⟩)
    · exact .inr (.inr ⟨s, by rw [← load_eq hg]; exact h⟩)⟩
theorem free_eq {f f' g g' : Nat → Nat} {n : Nat} (hf : ∀ i, i < n → f i = f' i) (hg : ∀ i, i < n → g i = g' i) {L : List Nat} (hL : ∀ i ∈ L, i ∈ List.range n) (h : MB.free f g L) : MB.free f' g' L :=
  List.Pairwise.imp_of_mem (fun {a b} ha hb q => by
    have h1 := List.mem_range.1 (hL a ha)
    have h2 := List.mem_range.1 (hL b hb)
    rw [← hf a h1, ← hf b h2, ← hg a h1, ← hg b h2]; exact q) h
theorem Mx_eq {f f' g g' : Nat → Nat} {n a : Nat} (hf : ∀ i, i < n → f i = f' i) (hg : ∀ i, i < n → g i = g' i) (A : MB.Mx f g (List.range n) a) : MB.Mx f' g' (List.range n) a := by
  obtain ⟨L, l1, l2, l3⟩ := A.some_
  exact ⟨⟨L, free_eq hf hg l2 l1, l2, l3⟩, fun K k1 k2 => A.most K (free_eq (fun i hi => (hf i hi).symm) (fun i hi => (hg i hi).symm) k2 k1) k2⟩
/-- A want with greater numbers. -/
def shW (S M : Nat) (w : Wn) : Wn := ⟨w.s + S, w.m + M⟩
theorem two_at {S M S2 M2 : Nat} {ws us : List Wn} (V2 : Vb S2 M2 us) {i : Nat} (hi : i < ws.length + us.length) :
    shN (ws ++ us.map (shW S M)) i = MB.two (shN ws) (shN us) ws.length S i ∧ moN (ws ++ us.map (shW S M)) i = MB.two (moN ws) (moN us) ws.length M i := by
  unfold MB.two
  by_cases h : i < ws.length
  · have e : wAt (ws ++ us.map (shW S M)) i = wAt ws i := by
      simp only [wAt, List.getD_eq_getElem?_getD]
      rw [List.getElem?_append_left h]
    rw [if_pos h, if_pos h]
    simp only [shN, moN, e, and_self]
  · have hj : i - ws.length < us.length := by omega
    have e : wAt (ws ++ us.map (shW S M)) i = shW S M (wAt us (i - ws.length)) := by
      simp only [wAt, List.getD_eq_getElem?_getD]
      rw [List.getElem?_append_right (by omega), List.getElem?_map, List.getElem?_eq_getElem hj]
      rfl
    have o := V2.ok _ (wAt_mem hj)
    obtain ⟨⟨o1, o2⟩, o3, o4⟩ := o
    rw [if_neg h, if_neg h]
    simp only [shN, moN, e, shW]
    omega
theorem apart_Vb {S M S2 M2 : Nat} {ws us : List Wn} (V : Vb S M ws) (V2 : Vb S2 M2 us) (h1 : S + S2 ≤ 6) (h2 : M + M2 ≤ 6) (h3 : ws.length + us.length ≤ 14) : Vb (S + S2) (M + M2) (ws ++ us.map (shW S M)) := by
  have v1 := V.s1
  have v3 := V.m1
  refine ⟨by omega, h1, by omega, h2, by simpa using h3, fun w hw => ?_⟩
  rcases List.mem_append.1 hw with hw | hw
  · obtain ⟨⟨o1, o2⟩, o3, o4⟩ := V.ok w hw
    exact ⟨⟨o1, by omega⟩, o3, by omega⟩
  · obtain ⟨u, hu, rfl⟩ := List.mem_map.1 hw
    obtain ⟨⟨o1, o2⟩, o3, o4⟩ := V2.ok u hu
    exact ⟨⟨by simp only [shW]; omega, by simp only [shW]; omega⟩, by simp only [shW]; omega, by simp only [shW]; omega⟩
theorem apart_law {S M S2 M2 : Nat} {ws us : List Wn} (V : Vb S M ws) (V2 : Vb S2 M2 us) (V3 : Vb (S + S2) (M + M2) (ws ++ us.map (shW S M))) :
    gld (ws ++ us.map (shW S M)) = max (gld ws) (gld us) ∧ (lsN (S + S2) (M + M2) (ws ++ us.map (shW S M))).length = (lsN S M ws).length + (lsN S2 M2 us).length := by
  have hl : (ws ++ us.map (shW S M)).length = ws.length + us.length := by simp
  have G := gld_great V3
  have B := lsN_Mx V3
  rw [hl] at G B
  have hf : ∀ i, i < ws.length → shN ws i < S := fun i hi => (V.s hi).2
  have hg : ∀ i, i < ws.length → moN ws i < M := fun i hi => (V.m hi).2
  have e1 : ∀ i, i < ws.length + us.length → shN (ws ++ us.map (shW S M)) i = MB.two (shN ws) (shN us) ws.length S i := fun i hi => (two_at V2 hi).1
  have e2 : ∀ i, i < ws.length + us.length → moN (ws ++ us.map (shW S M)) i = MB.two (moN ws) (moN us) ws.length M i := fun i hi => (two_at V2 hi).2
  exact ⟨MB.great_two hf hg (gld_great V) (gld_great V2) (Great_eq e1 e2 G), MB.mx_two hf hg (lsN_Mx V) (lsN_Mx V2) (Mx_eq e1 e2 B)⟩
theorem apart13 (S M : Int) (a : Option Addr) (n c : Nat) (ws : List Wn) (S2 M2 : Int) (a2 : Option Addr) (n2 c2 : Nat) (us : List Wn) (h : Eng.Heap) (hr : Row h a (wsV ws)) (hn : n = ws.length) (hr2 : Row h a2 (wsV us)) (hn2 : n2 = us.length) :
    CallsH Try.prog 13 #[.agg #[.int .i64 S, .int .i64 M, .slice a n c], .agg #[.int .i64 S2, .int .i64 M2, .slice a2 n2 c2]] h (fun v h' => v = .bool true ∧ Ext h h') := by
  (refine CallsH_of_exec Try.func13 rfl bod13 ?_; simp only [Try.ntmps13, Try.results13, coreS, stK_some, splice, Value.cells, Value.oneCell', Nat.reduceAdd, Nat.reduceSub, Nat.reduceMul, Nat.reduceLeDiff, Int.reduceEq, Nat.reduceEqDiff, M32Fs13])
  have x0 : Ext h ((h.push (.cells #[.int .i64 S, .int .i64 M, .slice a n c] 24)).push (.cells #[.int .i64 S2, .int .i64 M2, .slice a2 n2 c2] 24)) := ((Ext.refl h).push _).push _
  have hb0 := pn0 (h := h) (o := .cells #[.int .i64 S, .int .i64 M, .slice a n c] 24) (o' := .cells #[.int .i64 S2, .int .i64 M2, .slice a2 n2 c2] 24)
  have hd0 := pn1 (h := h) (o := .cells #[.int .i64 S, .int .i64 M, .slice a n c] 24) (o' := .cells #[.int .i64 S2, .int .i64 M2, .slice a2 n2 c2] 24)
  generalize (h.push (.cells #[.int .i64 S, .int .i64 M, .slice a n c] 24)).push (.cells #[.int .i64 S2, .int .i64 M2, .slice a2 n2 c2] 24) = hh at x0 hb0 hd0 ⊢
  refine CallsH.mono (fine36 S M a n c ws hh (hr.ext x0) hn) ?_
  rintro v h1 ⟨rfl, x1⟩
  have out : ∀ h1, Ext h h1 → CallsH Try.prog 17 #[] h1 (fun v h' => v = .bool true ∧ Ext h h') := fun h1 x => CallsH.mono (works17 h1) fun v h' q => ⟨q.1, x.trans q.2⟩
  have y1 := x0.trans x1
  have hb1 := x1.get hb0
  have hd1 := x1.get hd0
  by_cases hc : chk S M ws = 0
  case neg =>
    simp only [hc, decide_false, Bool.not_false, coreS, Value.cells, Value.oneCell', Nat.reduceAdd, Nat.reduceSub, Nat.reduceMul, Nat.reduceLeDiff, Int.reduceEq, Nat.reduceEqDiff, M32Fs13]
    refine CallsH.mono (out _ y1) ?_
    rintro v h2 ⟨rfl, x2⟩
    simp only [coreS, Value.cells, Value.oneCell', Nat.reduceAdd, Nat.reduceSub, Nat.reduceMul, Nat.reduceLeDiff, Int.reduceEq, Nat.reduceEqDiff, M32Fs13]
    exact x2
  simp only [hc, hd1, decide_true, Bool.not_true, coreS, Value.cells, Value.oneCell', Nat.reduceAdd, Nat.reduceSub, Nat.reduceMul, Nat.reduceLeDiff, Int.reduceEq, Nat.reduceEqDiff, M32Fs13]
  refine CallsH.mono (fine36 S2 M2 a2 n2 c2 us h1 (hr2.ext y1) hn2) ?_
  rintro v h2 ⟨rfl, x2⟩
  have y2 := y1.trans x2
  have hb2 := x2.get hb1
  have hd2 := x2.get hd1
  by_cases hc2 : chk S2 M2 us = 0
  case neg =>
    simp only [hc2, decide_false, Bool.not_false, coreS, Value.cells, Value.oneCell', Nat.reduceAdd, Nat.reduceSub, Nat.reduceMul, Nat.reduceLeDiff, Int.reduceEq, Nat.reduceEqDiff, M32Fs13]
    refine CallsH.mono (out _ y2) ?_
    rintro v h3 ⟨rfl, x3⟩
    simp only [coreS, Value.cells, Value.oneCell', Nat.reduceAdd, Nat.reduceSub, Nat.reduceMul, Nat.reduceLeDiff, Int.reduceEq, Nat.reduceEqDiff, M32Fs13]
    exact x3
  obtain ⟨s, m, rfl, rfl, V⟩ := chk_ok hc
  obtain ⟨s2, m2, rfl, rfl, V2⟩ := chk_ok hc2
  have hV := V.n
  have v1 := V.s1
  have v2 := V.s2
  have v3 := V.m1
  have v4 := V.m2
  have hV2 := V2.n
  have u1 := V2.s1
  have u2 := V2.s2
  have u3 := V2.m1
  have u4 := V2.m2
  by_cases hS : 6 < (s : Int) + (s2 : Int)
  · simp only [hc2, hS, hb2, hd2, decide_true, Bool.not_true, coreS, Value.cells, Value.oneCell', Nat.reduceAdd, Nat.reduceSub, Nat.reduceMul, Nat.reduceLeDiff, Int.reduceEq, Nat.reduceEqDiff, M32Fs13]
    refine ⟨by rw [inK_i64]; omega, ?_⟩
    refine CallsH.mono (out _ y2) ?_
    rintro v h3 ⟨rfl, x3⟩
    simp only [coreS, Value.cells, Value.oneCell', Nat.reduceAdd, Nat.reduceSub, Nat.reduceMul, Nat.reduceLeDiff, Int.reduceEq, Nat.reduceEqDiff, M32Fs13]
    exact x3
  by_cases hM : 6 < (m : Int) + (m2 : Int)
  · simp only [hc2, hS, hM, hb2, hd2, decide_true, decide_false, Bool.not_true, coreS, Value.cells, Value.oneCell', Nat.reduceAdd, Nat.reduceSub, Nat.reduceMul, Nat.reduceLeDiff, Int.reduceEq, Nat.reduceEqDiff, M32Fs13]
    refine ⟨by rw [inK_i64]; omega, by rw [inK_i64]; omega, ?_⟩
    refine CallsH.mono (out _ y2) ?_
    rintro v h3 ⟨rfl, x3⟩
    simp only [coreS, Value.cells, Value.oneCell', Nat.reduceAdd, Nat.reduceSub, Nat.reduceMul, Nat.reduceLeDiff, Int.reduceEq, Nat.reduceEqDiff, M32Fs13]
    exact x3
  by_cases hN : 14 < (n : Int) + (n2 : Int)
  · simp only [hc2, hS, hM, hN, hb2, hd2, decide_true, decide_false, Bool.not_true, coreS, Value.cells, Value.oneCell', Nat.reduceAdd, Nat.reduceSub, Nat.reduceMul, Nat.reduceLeDiff, Int.reduceEq, Nat.reduceEqDiff, M32Fs13]
    refine ⟨by rw [inK_i64]; omega, by rw [inK_i64]; omega, by rw [inK_i64]; omega, ?_⟩
    refine CallsH.mono (out _ y2) ?_
    rintro v h3 ⟨rfl, x3⟩
    simp only [coreS, Value.cells, Value.oneCell', Nat.reduceAdd, Nat.reduceSub, Nat.reduceMul, Nat.reduceLeDiff, Int.reduceEq, Nat.reduceEqDiff, M32Fs13]
    exact x3
  simp only [hc2, hS, hM, hN, hb2, hd2, decide_true, decide_false, Bool.not_true, coreS, Value.cells, Value.oneCell', Nat.reduceAdd, Nat.reduceSub, Nat.reduceMul, Nat.reduceLeDiff, Int.reduceEq, Nat.reduceEqDiff, M32Fs13]
  refine ⟨by rw [inK_i64]; omega, by rw [inK_i64]; omega, by rw [inK_i64]; omega, ?_⟩
  refine WP_cut [5, 57, 58, 59, 60, 61, 62, 63, 64, 65, 66, 67, 68, 69, 70, 71] (fun g h' => (∃ b a' c', g 5 = .pointer (some ⟨b, 0, none⟩) ∧ h2.size ≤ b ∧ h'[b]? = some (.cells #[.int .i64 ((s : Int) + (s2 : Int)), .int .i64 ((m : Int) + (m2 : Int)), .slice a' n c'] 24) ∧ OwnV h2.size h' 58 2 a' n c' (wsV ws)) ∧ Ext h2 h') ?_ ?_
  · refine WP_treeB (by kernel_rfl) (h2.size) (.pure 0 (.load 1 (.pure 2 (.load 3 (.pure 4 (.pure 5 (.load 6 (.pure 7 (.load 8 (.pure 9 (.pure 11 (.load 12 (.fork 10 15 (.fork 13 15 (.pure 14 (.keep 15 (.keep 16 (.fin)))) (.keep 13 (.pure 14 (.keep 16 (.fin))))) (.keep 10 (.keep 13 (.pure 14 (.keep 16 (.fin)))))))))))))))))) (by kernel_rfl) rfl (by kernel_rfl) ?_
    have lt2 := lt_of_get hb2
    have lt3 := lt_of_get hd2
    simp only [hb2, hd2, coreS, Value.cells, Value.oneCell', Nat.reduceAdd, Nat.reduceSub, Nat.reduceMul, Nat.reduceLeDiff, Int.reduceEq, Nat.reduceEqDiff, drawS, treeS, treeB, M32Fs13]
    refine ⟨by omega, by omega, by rw [inK_i64]; omega, by omega, by omega, by rw [inK_i64]; omega, by omega, ?_⟩
    try simp only [List.drop, List.take, splice, coreS, Value.cells, Value.oneCell', Nat.reduceAdd, Nat.reduceSub, Nat.reduceMul, Nat.reduceLeDiff, Int.reduceEq, Nat.reduceEqDiff, drawS, treeS, treeB, M32Fs13]
    refine execB_fork ?_ ?_
    · simp only [List.drop, List.take, splice, coreS, Value.cells, Value.oneCell', Nat.reduceAdd, Nat.reduceSub, Nat.reduceMul, Nat.reduceLeDiff, Int.reduceEq, Nat.reduceEqDiff, drawS, treeS, treeB, M32Fs13]
      refine ⟨by omega, RB.of_ext ((Ext.refl _).push _) (RB.refl h2.size h2).1, ?_⟩
      have X41 := (RB.refl h2.size h2).trans (RB.of_ext (m := h2.size) ((Ext.refl h2).push (.cells #[] 58)) (RB.refl h2.size h2).1)
      have Q41 : (Array.push h2 (.cells #[] 58))[h2.size]? = some (.cells #[] 58) := by rw [Array.getElem?_push, if_pos (by simp)]
      have gQ41 : h2.size ≤ h2.size := by have := (RB.refl h2.size h2).1; (try simp only [push_size] at this); omega
      try simp only [List.drop, List.take, splice, coreS, Value.cells, Value.oneCell', Nat.reduceAdd, Nat.reduceSub, Nat.reduceMul, Nat.reduceLeDiff, Int.reduceEq, Nat.reduceEqDiff, drawS, treeS, treeB, M32Fs13]
      refine execB_fork ?_ ?_
      · simp only [List.drop, List.take, splice, coreS, Value.cells, Value.oneCell', Nat.reduceAdd, Nat.reduceSub, Nat.reduceMul, Nat.reduceLeDiff, Int.reduceEq, Nat.reduceEqDiff, drawS, treeS, treeB, M32Fs13]
        refine apfW rfl rfl Q41 (hr.ext (y2.trans X41.ext)) hn.symm (by omega) fun a42 c42 h42 P42 x42 => ⟨RB.of_ext x42 X41.1, ?_⟩
        have O42 := P42.mono gQ41
        have X42 := X41.trans (RB.of_ext x42 X41.1)
        try simp only [List.drop, List.take, splice, coreS, Value.cells, Value.oneCell', Nat.reduceAdd, Nat.reduceSub, Nat.reduceMul, Nat.reduceLeDiff, Int.reduceEq, Nat.reduceEqDiff, drawS, treeS, treeB, M32Fs13]
        refine execB_keep ?_
        simp only [List.drop, List.take, splice, coreS, Value.cells, Value.oneCell', Nat.reduceAdd, Nat.reduceSub, Nat.reduceMul, Nat.reduceLeDiff, Int.reduceEq, Nat.reduceEqDiff, drawS, treeS, treeB, M32Fs13]
        refine ⟨RB.of_ext ((Ext.refl _).push _) X42.1, ?_⟩
        have X43 := X42.trans (RB.of_ext (m := h2.size) ((Ext.refl h42).push (.cells #[.int .i64 0, .int .i64 0, .slice none 0 0] 24)) X42.1)
        have T43 : (Array.push h42 (.cells #[.int .i64 0, .int .i64 0, .slice none 0 0] 24))[h42.size]? = some (.cells #[.int .i64 0, .int .i64 0, .slice none 0 0] 24) := by rw [Array.getElem?_push, if_pos (by simp)]
        have Q43 := push_old (o := .cells #[.int .i64 0, .int .i64 0, .slice none 0 0] 24) Q41
        have O43 := O42.ext ((Ext.refl h42).push (.cells #[.int .i64 0, .int .i64 0, .slice none 0 0] 24))
        have gT43 : h2.size ≤ h42.size := by have := X42.1; (try simp only [push_size] at this); omega
        try simp only [List.drop, List.take, splice, coreS, Value.cells, Value.oneCell', Nat.reduceAdd, Nat.reduceSub, Nat.reduceMul, Nat.reduceLeDiff, Int.reduceEq, Nat.reduceEqDiff, drawS, treeS, treeB, M32Fs13]
        refine execB_keep ?_
        have T0 := T43
        try simp only [T0, coreS, Value.cells, Value.oneCell', Nat.reduceAdd, Nat.reduceSub, Nat.reduceMul, Nat.reduceLeDiff, Int.reduceEq, Nat.reduceEqDiff, drawS, treeS, treeB, M32Fs13]
        refine stK_abs T0 (by simp) fun h44 g44 u44 => ?_
        simp only [splice] at g44
        have uu := RB.of_upd (m := h2.size) u44 (by have := gT43; omega)
        have gT0 := gT43
        refine ⟨uu, ?_⟩
        have XF := X43.trans uu
        have TF := g44
        have OF := O43.keep (h' := h44) (fun p hp => u44.old _ (OwnV.apart O43 T0 (by decide) p hp))
        try simp only [coreS, Value.cells, Value.oneCell', Nat.reduceAdd, Nat.reduceSub, Nat.reduceMul, Nat.reduceLeDiff, Int.reduceEq, Nat.reduceEqDiff, drawS, treeS, treeB, M32Fs13]
        try simp only [execB_fin, coreS, Value.cells, Value.oneCell', Nat.reduceAdd, Nat.reduceSub, Nat.reduceMul, Nat.reduceLeDiff, Int.reduceEq, Nat.reduceEqDiff, M32Fs13]
        exact midK_mk (by kernel_rfl) ⟨⟨_, _, _, rfl, gT0, TF, OF⟩, XF.ext⟩
      · simp only [List.drop, List.take, splice, coreS, Value.cells, Value.oneCell', Nat.reduceAdd, Nat.reduceSub, Nat.reduceMul, Nat.reduceLeDiff, Int.reduceEq, Nat.reduceEqDiff, drawS, treeS, treeB, M32Fs13]
        refine ⟨RB.of_ext ((Ext.refl _).push _) X41.1, ?_⟩
        have X45 := X41.trans (RB.of_ext (m := h2.size) ((Ext.refl (Array.push h2 (.cells #[] 58))).push (.cells #[.int .i64 0, .int .i64 0, .slice none 0 0] 24)) X41.1)
        have T45 : (Array.push (Array.push h2 (.cells #[] 58)) (.cells #[.int .i64 0, .int .i64 0, .slice none 0 0] 24))[h2.size + 1]? = some (.cells #[.int .i64 0, .int .i64 0, .slice none 0 0] 24) := by rw [Array.getElem?_push, if_pos (by simp)]
        have Q45 := push_old (o := .cells #[.int .i64 0, .int .i64 0, .slice none 0 0] 24) Q41
        have gT45 : h2.size ≤ h2.size + 1 := by have := X41.1; (try simp only [push_size] at this); omega
        try simp only [List.drop, List.take, splice, coreS, Value.cells, Value.oneCell', Nat.reduceAdd, Nat.reduceSub, Nat.reduceMul, Nat.reduceLeDiff, Int.reduceEq, Nat.reduceEqDiff, drawS, treeS, treeB, M32Fs13]
        refine execB_keep ?_
        simp only [List.drop, List.take, splice, coreS, Value.cells, Value.oneCell', Nat.reduceAdd, Nat.reduceSub, Nat.reduceMul, Nat.reduceLeDiff, Int.reduceEq, Nat.reduceEqDiff, drawS, treeS, treeB, M32Fs13]
        refine apfW rfl rfl Q45 (hr.ext (y2.trans X45.ext)) hn.symm (by omega) fun a46 c46 h46 P46 x46 => ⟨RB.of_ext x46 X45.1, ?_⟩
        have O46 := P46.mono gQ41
        have X46 := X45.trans (RB.of_ext x46 X45.1)
        have T46 := x46.get T45
        try simp only [List.drop, List.take, splice, coreS, Value.cells, Value.oneCell', Nat.reduceAdd, Nat.reduceSub, Nat.reduceMul, Nat.reduceLeDiff, Int.reduceEq, Nat.reduceEqDiff, drawS, treeS, treeB, M32Fs13]
        refine execB_keep ?_
        have T0 := T46
        try simp only [T0, coreS, Value.cells, Value.oneCell', Nat.reduceAdd, Nat.reduceSub, Nat.reduceMul, Nat.reduceLeDiff, Int.reduceEq, Nat.reduceEqDiff, drawS, treeS, treeB, M32Fs13]
        refine stK_abs T0 (by simp) fun h47 g47 u47 => ?_
        simp only [splice] at g47
        have uu := RB.of_upd (m := h2.size) u47 (by have := gT45; omega)
        have gT0 := gT45
        refine ⟨uu, ?_⟩
        have XF := X46.trans uu
        have TF := g47
        have OF := O46.keep (h' := h47) (fun p hp => u47.old _ (OwnV.apart O46 T0 (by decide) p hp))
        try simp only [coreS, Value.cells, Value.oneCell', Nat.reduceAdd, Nat.reduceSub, Nat.reduceMul, Nat.reduceLeDiff, Int.reduceEq, Nat.reduceEqDiff, drawS, treeS, treeB, M32Fs13]
        try simp only [execB_fin, coreS, Value.cells, Value.oneCell', Nat.reduceAdd, Nat.reduceSub, Nat.reduceMul, Nat.reduceLeDiff, Int.reduceEq, Nat.reduceEqDiff, M32Fs13]
        exact midK_mk (by kernel_rfl) ⟨⟨_, _, _, rfl, gT0, TF, OF⟩, XF.ext⟩
    · simp only [List.drop, List.take, splice, coreS, Value.cells, Value.oneCell', Nat.reduceAdd, Nat.reduceSub, Nat.reduceMul, Nat.reduceLeDiff, Int.reduceEq, Nat.reduceEqDiff, drawS, treeS, treeB, M32Fs13]
      refine ⟨RB.of_ext ((Ext.refl _).push _) (RB.refl h2.size h2).1, ?_⟩
      have X48 := (RB.refl h2.size h2).trans (RB.of_ext (m := h2.size) ((Ext.refl h2).push (.cells #[.int .i64 0, .int .i64 0, .slice none 0 0] 24)) (RB.refl h2.size h2).1)
      have T48 : (Array.push h2 (.cells #[.int .i64 0, .int .i64 0, .slice none 0 0] 24))[h2.size]? = some (.cells #[.int .i64 0, .int .i64 0, .slice none 0 0] 24) := by rw [Array.getElem?_push, if_pos (by simp)]
      have gT48 : h2.size ≤ h2.size := by have := (RB.refl h2.size h2).1; (try simp only [push_size] at this); omega
      try simp only [List.drop, List.take, splice, coreS, Value.cells, Value.oneCell', Nat.reduceAdd, Nat.reduceSub, Nat.reduceMul, Nat.reduceLeDiff, Int.reduceEq, Nat.reduceEqDiff, drawS, treeS, treeB, M32Fs13]
      refine execB_keep ?_
      simp only [List.drop, List.take, splice, coreS, Value.cells, Value.oneCell', Nat.reduceAdd, Nat.reduceSub, Nat.reduceMul, Nat.reduceLeDiff, Int.reduceEq, Nat.reduceEqDiff, drawS, treeS, treeB, M32Fs13]
      refine ⟨by omega, RB.of_ext ((Ext.refl _).push _) X48.1, ?_⟩
      have X49 := X48.trans (RB.of_ext (m := h2.size) ((Ext.refl (Array.push h2 (.cells #[.int .i64 0, .int .i64 0, .slice none 0 0] 24))).push (.cells #[] 58)) X48.1)
      have Q49 : (Array.push (Array.push h2 (.cells #[.int .i64 0, .int .i64 0, .slice none 0 0] 24)) (.cells #[] 58))[h2.size + 1]? = some (.cells #[] 58) := by rw [Array.getElem?_push, if_pos (by simp)]
      have T49 := push_old (o := .cells #[] 58) T48
      have gQ49 : h2.size ≤ h2.size + 1 := by have := X48.1; (try simp only [push_size] at this); omega
      try simp only [List.drop, List.take, splice, coreS, Value.cells, Value.oneCell', Nat.reduceAdd, Nat.reduceSub, Nat.reduceMul, Nat.reduceLeDiff, Int.reduceEq, Nat.reduceEqDiff, drawS, treeS, treeB, M32Fs13]
      refine execB_keep ?_
      simp only [List.drop, List.take, splice, coreS, Value.cells, Value.oneCell', Nat.reduceAdd, Nat.reduceSub, Nat.reduceMul, Nat.reduceLeDiff, Int.reduceEq, Nat.reduceEqDiff, drawS, treeS, treeB, M32Fs13]
      refine apfW rfl rfl Q49 (hr.ext (y2.trans X49.ext)) hn.symm (by omega) fun a50 c50 h50 P50 x50 => ⟨RB.of_ext x50 X49.1, ?_⟩
      have O50 := P50.mono gQ49
      have X50 := X49.trans (RB.of_ext x50 X49.1)
      have T50 := x50.get T49
      try simp only [List.drop, List.take, splice, coreS, Value.cells, Value.oneCell', Nat.reduceAdd, Nat.reduceSub, Nat.reduceMul, Nat.reduceLeDiff, Int.reduceEq, Nat.reduceEqDiff, drawS, treeS, treeB, M32Fs13]
      refine execB_keep ?_
      have T0 := T50
      try simp only [T0, coreS, Value.cells, Value.oneCell', Nat.reduceAdd, Nat.reduceSub, Nat.reduceMul, Nat.reduceLeDiff, Int.reduceEq, Nat.reduceEqDiff, drawS, treeS, treeB, M32Fs13]
      refine stK_abs T0 (by simp) fun h51 g51 u51 => ?_
      simp only [splice] at g51
      have uu := RB.of_upd (m := h2.size) u51 (by have := gT48; omega)
      have gT0 := gT48
      refine ⟨uu, ?_⟩
      have XF := X50.trans uu
      have TF := g51
      have OF := O50.keep (h' := h51) (fun p hp => u51.old _ (OwnV.apart O50 T0 (by decide) p hp))
      try simp only [coreS, Value.cells, Value.oneCell', Nat.reduceAdd, Nat.reduceSub, Nat.reduceMul, Nat.reduceLeDiff, Int.reduceEq, Nat.reduceEqDiff, drawS, treeS, treeB, M32Fs13]
      try simp only [execB_fin, coreS, Value.cells, Value.oneCell', Nat.reduceAdd, Nat.reduceSub, Nat.reduceMul, Nat.reduceLeDiff, Int.reduceEq, Nat.reduceEqDiff, M32Fs13]
      exact midK_mk (by kernel_rfl) ⟨⟨_, _, _, rfl, gT0, TF, OF⟩, XF.ext⟩
  rintro f3 h3 ⟨⟨b5, a', c', f5, b5g, b5c, O3⟩, x3⟩
  have y3 := y2.trans x3
  have hb3 := x3.get hb2
  have hd3 := x3.get hd2
  simp only [f5, coreS, Value.cells, Value.oneCell', Nat.reduceAdd, Nat.reduceSub, Nat.reduceMul, Nat.reduceLeDiff, Int.reduceEq, Nat.reduceEqDiff, M32Fs13]
  refine WP_loopI [6, 72, 73, 74, 75, 76, 77, 78, 79, 80, 81, 82, 83, 84, 85, 86, 87, 88, 89, 90, 91, 92, 93, 94, 95, 96, 97, 98, 99, 100, 101, 102] (fun e h' => Ext h2 h' ∧ ∃ i : Nat, i ≤ n2 ∧ e 6 = .int .i64 i ∧ ∃ a' c', h'[b5]? = some (.cells #[.int .i64 ((s : Int) + (s2 : Int)), .int .i64 ((m : Int) + (m2 : Int)), .slice a' (n + i) c'] 24) ∧ OwnV h2.size h' 58 2 a' (n + i) c' (wsV (ws ++ (us.take i).map (shW s m)))) (fun e _ => match e 6 with | .int _ q => n2 - q.toNat | _ => 0) ⟨x3, 0, by omega, rfl, a', c', b5c, by simpa using O3⟩ ?_
  rintro e h4 ⟨x4, i, hi, he, a4, c4, b4c, O4⟩
  have y4 := y2.trans x4
  have hb4 := x4.get hb2
  have hd4 := x4.get hd2
  have hr4 := hr2.ext y4
  by_cases hin : i < n2
  · have hlt : (i : Int) < (n2 : Int) := by omega
    have hiu : i < us.length := by omega
    have fa := faR hr4 hiu
    have k0 := cellW0 hr4 hiu
    have k1 := cellW1 hr4 hiu
    have o1 := V2.s hiu
    have o2 := V2.m hiu
    rw [o1.1] at k0
    rw [o2.1] at k1
    have sm := rowW_some hr4 hiu
    have meas : n2 - ((i : Int) + 1).toNat < n2 - (i : Int).toNat := by omega
    obtain ⟨u, hu⟩ : ∃ u : Wn, u = shW s m (wAt us i) := ⟨_, rfl⟩
    have hus : u.s = ((shN us i : Nat) : Int) + (s : Int) := by rw [hu, ← o1.1]; rfl
    have hum : u.m = ((moN us i : Nat) : Int) + (m : Int) := by rw [hu, ← o2.1]; rfl
    have htk : ws ++ (us.take (i + 1)).map (shW s m) = (ws ++ (us.take i).map (shW s m)) ++ [u] := by
      rw [List.take_add_one, List.getElem?_eq_getElem hiu, Option.toList_some, List.map_append, ← List.append_assoc, hu, wAt_eq hiu]
      rfl
    simp only [he, hlt, hd4, decide_true, coreS, Value.cells, Value.oneCell', Nat.reduceAdd, Nat.reduceSub, Nat.reduceMul, Nat.reduceLeDiff, Int.reduceEq, Nat.reduceEqDiff, M32Fs13]
    refine WP_tree (by kernel_rfl) sta_ext (.quiet 0 (.quiet 1 (.quiet 2 (.quiet 3 (.quiet 4 (.quiet 5 (.quiet 6 (.quiet 7 (.quiet 8 (.quiet 9 (.quiet 10 (.quiet 11 (.quiet 12 (.quiet 13 (.quiet 14 (.quiet 15 (.quiet 16 (.quiet 17 (.quiet 18 (.quiet 19 (.quiet 20 (.keep 21 (.one 22 (.quiet 23 (.one 24 (.fin)))))))))))))))))))))))))) (by kernel_rfl) rfl (by kernel_rfl) ?_
    simp only [he, hb4, hd4, b4c, fa, k0, k1, splice, List.drop, List.take, Int.toNat_natCast, coreS, Value.cells, Value.oneCell', Nat.reduceAdd, Nat.reduceSub, Nat.reduceMul, Nat.reduceLeDiff, Int.reduceEq, Nat.reduceEqDiff, drawS, treeS, M32Fs13]
    refine ⟨⟨by omega, by omega⟩, sm, by rw [inK_i64]; omega, ⟨by omega, by omega⟩, sm, by rw [inK_i64]; omega, ?_⟩
    rw [← hus, ← hum]
    refine execT_keep fun hA xA => ?_
    simp only [splice, List.drop, List.take, coreS, Value.cells, Value.oneCell', Nat.reduceAdd, Nat.reduceSub, Nat.reduceMul, Nat.reduceLeDiff, Int.reduceEq, Nat.reduceEqDiff, drawS, treeS, M32Fs13]
    refine ⟨by omega, (Ext.refl _).push _, ?_⟩
    refine execT_one fun hB xB => ?_
    have W1 := xB.get (push_new (h := hA) (o := .cells #[.int .i64 u.s, .int .i64 u.m] 58))
    have xAB : Ext h4 hB := (xA.push _).trans xB
    have OB := O4.ext xAB
    try simp only [splice, List.drop, List.take, coreS, Value.cells, Value.oneCell', Nat.reduceAdd, Nat.reduceSub, Nat.reduceMul, Nat.reduceLeDiff, Int.reduceEq, Nat.reduceEqDiff, drawS, treeS, M32Fs13]
    refine apW (us := [u]) rfl rfl OB (by have := (x4.trans xAB).size; omega) (row_at (vs := [.int .i64 u.s, .int .i64 u.m]) (cs := wsV [u]) (by rfl) W1) rfl (by omega) fun a5 c5 h5 O5 A5 => ?_
    have T5 := (A5.old _ (lt_of_get (xAB.get b4c)) (OwnV.apart OB (xAB.get b4c) (by decide))).trans (xAB.get b4c)
    have R5 := App.rbV A5 OB (Nat.le_refl _) (x4.trans xAB).size
    have x5 : Ext h2 h5 := ((RB.of_ext (x4.trans xAB) (Nat.le_refl _)).trans R5).ext
    try simp only [splice, List.drop, List.take, coreS, Value.cells, Value.oneCell', Nat.reduceAdd, Nat.reduceSub, Nat.reduceMul, Nat.reduceLeDiff, Int.reduceEq, Nat.reduceEqDiff, drawS, treeS, M32Fs13]
    refine execT_one fun hC xC => ?_
    have T6 := xC.get T5
    try simp only [T6, splice, List.drop, List.take, coreS, Value.cells, Value.oneCell', Nat.reduceAdd, Nat.reduceSub, Nat.reduceMul, Nat.reduceLeDiff, Int.reduceEq, Nat.reduceEqDiff, drawS, treeS, M32Fs13]
    refine stK_abs T6 (by simp) fun h6 g6 u6 => ?_
    simp only [splice, List.drop, List.take] at g6
    have O6 := (O5.ext xC).keep (h' := h6) (fun p hp => u6.old _ (OwnV.apart (O5.ext xC) T6 (by decide) p hp))
    have x6 : Ext h2 h6 := u6.ext (x5.trans xC) (by omega)
    try simp only [splice, List.drop, List.take, coreS, Value.cells, Value.oneCell', Nat.reduceAdd, Nat.reduceSub, Nat.reduceMul, Nat.reduceLeDiff, Int.reduceEq, Nat.reduceEqDiff, drawS, treeS, M32Fs13]
    refine execT_fin fun h7 x7 => ?_
    simp only [he, coreS, Value.cells, Value.oneCell', Nat.reduceAdd, Nat.reduceSub, Nat.reduceMul, Nat.reduceLeDiff, Int.reduceEq, Nat.reduceEqDiff, M32Fs13]
    refine ⟨by rw [inK_i64]; omega, roundK_mk (by kernel_rfl) ⟨x6.trans x7, i + 1, by omega, rfl, a5, c5, x7.get g6, ?_⟩ meas⟩
    rw [htk, wsV_append]
    exact O6.ext x7
  obtain rfl : i = n2 := by omega
  rw [List.take_of_length_le (by omega)] at O4
  obtain ⟨vs, hvs⟩ : ∃ vs, vs = ws ++ us.map (shW s m) := ⟨_, rfl⟩
  have V3 := apart_Vb V V2 (by omega) (by omega) (by omega)
  obtain ⟨l1, l2⟩ := apart_law V V2 V3
  rw [← hvs] at V3 l1 l2 O4
  have hn3 : n + i = vs.length := by rw [hvs]; simp; omega
  have hr3 := O4.row
  have hle1 := lsN_le V
  have hle2 := lsN_le V2
  have cs : ((s : Int) + (s2 : Int)) = ((s + s2 : Nat) : Int) := by omega
  have cm : ((m : Int) + (m2 : Int)) = ((m + m2 : Nat) : Int) := by omega
  rw [cs, cm] at b4c
  simp only [he, show ¬ ((i : Int) < (i : Int)) by omega, hb4, hd4, decide_false, coreS, Value.cells, Value.oneCell', Nat.reduceAdd, Nat.reduceSub, Nat.reduceMul, Nat.reduceLeDiff, Int.reduceEq, Nat.reduceEqDiff, M32Fs13]
  refine CallsH.mono (few37 s m a n c ws h4 (hr.ext y4) hn V) ?_
  rintro v h5 ⟨⟨q5, rfl, _, _⟩, x5⟩
  simp only [x5.get hd4, coreS, Value.cells, Value.oneCell', Nat.reduceAdd, Nat.reduceSub, Nat.reduceMul, Nat.reduceLeDiff, Int.reduceEq, Nat.reduceEqDiff, M32Fs13]
  refine CallsH.mono (few37 s2 m2 a2 i c2 us h5 (hr4.ext x5) hn2 V2) ?_
  rintro v h6 ⟨⟨q6, rfl, _, _⟩, x6⟩
  have x46 := x5.trans x6
  simp only [x46.get b4c, coreS, Value.cells, Value.oneCell', Nat.reduceAdd, Nat.reduceSub, Nat.reduceMul, Nat.reduceLeDiff, Int.reduceEq, Nat.reduceEqDiff, M32Fs13]
  refine CallsH.mono (few37 (s + s2) (m + m2) a4 (n + i) c4 vs h6 (hr3.ext x46) hn3 V3) ?_
  rintro v h7 ⟨⟨q7, rfl, _, _⟩, x7⟩
  have x47 := x46.trans x7
  simp only [x47.get hb4, coreS, Value.cells, Value.oneCell', Nat.reduceAdd, Nat.reduceSub, Nat.reduceMul, Nat.reduceLeDiff, Int.reduceEq, Nat.reduceEqDiff, M32Fs13]
  refine CallsH.mono (best41 s m a n c ws h7 (hr.ext (y4.trans x47)) hn V) ?_
  rintro v h8 ⟨⟨a8, c8, rfl, _⟩, x8⟩
  have x48 := x47.trans x8
  simp only [x48.get hd4, coreS, Value.cells, Value.oneCell', Nat.reduceAdd, Nat.reduceSub, Nat.reduceMul, Nat.reduceLeDiff, Int.reduceEq, Nat.reduceEqDiff, M32Fs13]
  refine CallsH.mono (best41 s2 m2 a2 i c2 us h8 (hr4.ext x48) hn2 V2) ?_
  rintro v h9 ⟨⟨a9, c9, rfl, _⟩, x9⟩
  have x49 := x48.trans x9
  simp only [x49.get b4c, coreS, Value.cells, Value.oneCell', Nat.reduceAdd, Nat.reduceSub, Nat.reduceMul, Nat.reduceLeDiff, Int.reduceEq, Nat.reduceEqDiff, M32Fs13]
  refine CallsH.mono (best41 (s + s2) (m + m2) a4 (n + i) c4 vs h9 (hr3.ext x49) hn3 V3) ?_
  rintro v h10 ⟨⟨a10, c10, rfl, _⟩, x10⟩
  have x4A := x49.trans x10
  have k1 : ((gld vs : Nat) : Int) = if ((gld ws : Nat) : Int) < (gld us : Nat) then ((gld us : Nat) : Int) else ((gld ws : Nat) : Int) := by rw [l1]; split <;> omega
  have k2 : (((lsN (s + s2) (m + m2) vs).length : Nat) : Int) = ((lsN s m ws).length : Nat) + ((lsN s2 m2 us).length : Nat) := by rw [l2]; omega
  simp only [k1, k2, decide_true, Bool.not_true, coreS, Value.cells, Value.oneCell', Nat.reduceAdd, Nat.reduceSub, Nat.reduceMul, Nat.reduceLeDiff, Int.reduceEq, Nat.reduceEqDiff, M32Fs13]
  refine ⟨by rw [inK_i64]; omega, ?_⟩
  refine CallsH.mono (out _ (y4.trans x4A)) ?_
  rintro v h11 ⟨rfl, x11⟩
  simp only [coreS, Value.cells, Value.oneCell', Nat.reduceAdd, Nat.reduceSub, Nat.reduceMul, Nat.reduceLeDiff, Int.reduceEq, Nat.reduceEqDiff, M32Fs13]
  exact x11
end Go.Proofs.Ytmgkeeefbfefgaa
