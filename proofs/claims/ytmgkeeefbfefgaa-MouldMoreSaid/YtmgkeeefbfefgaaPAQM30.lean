/- MouldMore returns true. -/
import Derived.Test.YtmgkeeefbfefgaaPA12
import Derived.Test.YtmgkeeefbfefgaaPAQWork
namespace Go.Proofs.Ytmgkeeefbfefgaa
open Go Go.Proofs Go.Eng Go.Run Tab
set_option maxRecDepth 100000
set_option linter.unusedSimpArgs false
set_option linter.unusedVariables false
set_option linter.defProp false
set_option maxHeartbeats 8000000
set_option linter.defProp false
def M30Fs11 := (And.intro (And.intro (And.intro (And.intro @agg22 (And.intro @agg24 @agg3)) (And.intro (And.intro @agg58 @by58) (And.intro @fo24_0 @fo24_1))) (And.intro (And.intro @fo24_2 (And.intro @fps24_0 @fps24_1)) (And.intro (And.intro @fps24_2 @fps58_0) (And.intro @fps58_1 @inf22)))) (And.intro (And.intro (And.intro @inf24 (And.intro @inf3 @inf58)) (And.intro (And.intro @okf24 @okf58) (And.intro @sz22 @sz24))) (And.intro (And.intro (And.intro @sz3 @sz58) (And.intro @zero24 @zero58)) (And.intro (And.intro @Try.underlying3 @Try.underlying5) (And.intro @Try.underlying22 @Try.underlying25)))))
theorem load_same {f g : Nat → Nat} {n x : Nat} (h : ∀ i, i < n → f i = g i) : MB.load f n x = MB.load g n x := MB.cnt_congr fun i hi => by rw [h i hi]
theorem Great_same {f f' g g' : Nat → Nat} {n D : Nat} (hf : ∀ i, i < n → f i = f' i) (hg : ∀ i, i < n → g i = g' i) (G : MB.Great f g n D) : MB.Great f' g' n D :=
  ⟨fun s => by rw [← load_same hf]; exact G.sle s, fun m => by rw [← load_same hg]; exact G.mle m, by
    rcases G.is with h | ⟨s, h⟩ | ⟨s, h⟩
    · exact .inl h
    · exact .inr (.inl ⟨s, by rw [← load_same hf]; exact h⟩)
    · exact .inr (.inr ⟨s, by rw [← load_same hg]; exact h⟩)⟩
theorem free_same {f f' g g' : Nat → Nat} {n : Nat} (hf : ∀ i, i < n → f i = f' i) (hg : ∀ i, i < n → g i = g' i) {L : List Nat} (hL : ∀ i ∈ L, i ∈ List.range n) (h : MB.free f g L) : MB.free f' g' L :=
  List.Pairwise.imp_of_mem (fun {a b} ha hb q => by
    have h1 := List.mem_range.1 (hL a ha)
    have h2 := List.mem_range.1 (hL b hb)
    rw [← hf a h1, ← hf b h2, ← hg a h1, ← hg b h2]; exact q) h
theorem Mx_same {f f' g g' : Nat → Nat} {n a : Nat} (hf : ∀ i, i < n → f i = f' i) (hg : ∀ i, i < n → g i = g' i) (A : MB.Mx f g (List.range n) a) : MB.Mx f' g' (List.range n) a := by
  obtain ⟨L, l1, l2, l3⟩ := A.some_
  exact ⟨⟨L, free_same hf hg l2 l1, l2, l3⟩, fun K k1 k2 => A.most K (free_same (fun i hi => (hf i hi).symm) (fun i hi => (hg i hi).symm) k2 k1) k2⟩
theorem more_law {S M : Nat} {ws : List Wn} {w : Wn} (V : Vb S M ws) (V' : Vb S M (ws ++ [w])) : gld ws ≤ gld (ws ++ [w]) ∧ gld (ws ++ [w]) ≤ gld ws + 1 ∧ (lsN S M ws).length ≤ (lsN S M (ws ++ [w])).length ∧ (lsN S M (ws ++ [w])).length ≤ (lsN S M ws).length + 1 := by
  have e : ∀ i, i < ws.length → wAt ws i = wAt (ws ++ [w]) i := fun i hi => by
    simp only [wAt, List.getD_eq_getElem?_getD]
    rw [List.getElem?_append_left hi]
  have hs : ∀ i, i < ws.length → shN ws i = shN (ws ++ [w]) i := fun i hi => by simp only [shN, e i hi]
  have hm : ∀ i, i < ws.length → moN ws i = moN (ws ++ [w]) i := fun i hi => by simp only [moN, e i hi]
  have hl : (ws ++ [w]).length = ws.length + 1 := by simp
  have G' := gld_great V'
  have B' := lsN_Mx V'
  rw [hl] at G' B'
  have h1 := MB.great_more (Great_same hs hm (gld_great V)) G'
  have h2 := MB.mx_more (Mx_same hs hm (lsN_Mx V)) B'
  exact ⟨h1.1, h1.2, h2.1, h2.2⟩
theorem more11 (S M : Int) (a : Option Addr) (n c : Nat) (ws : List Wn) (x y : Int) (h : Eng.Heap) (hr : Row h a (wsV ws)) (hn : n = ws.length) (hx : 0 ≤ x ∧ x ≤ 255) (hy : 0 ≤ y ∧ y ≤ 255) :
    CallsH Try.prog 11 #[.agg #[.int .i64 S, .int .i64 M, .slice a n c], .int .u8 x, .int .u8 y] h (fun v h' => v = .bool true ∧ Ext h h') := by
  (refine CallsH_of_exec Try.func11 rfl bod11 ?_; simp only [Try.ntmps11, Try.results11, coreS, stK_some, splice, Value.cells, Value.oneCell', Nat.reduceAdd, Nat.reduceSub, Nat.reduceMul, Nat.reduceLeDiff, Int.reduceEq, Nat.reduceEqDiff, M30Fs11])
  have x0 : Ext h (h.push (.cells #[.int .i64 S, .int .i64 M, .slice a n c] 24)) := (Ext.refl h).push _
  have hb0 := push_new (h := h) (o := .cells #[.int .i64 S, .int .i64 M, .slice a n c] 24)
  generalize h.push (.cells #[.int .i64 S, .int .i64 M, .slice a n c] 24) = hh at x0 hb0 ⊢
  refine CallsH.mono (fine36 S M a n c ws hh (hr.ext x0) hn) ?_
  rintro v h1 ⟨rfl, x1⟩
  have out : ∀ h1, Ext h h1 → CallsH Try.prog 17 #[] h1 (fun v h' => v = .bool true ∧ Ext h h') := fun h1 x => CallsH.mono (works17 h1) fun v h' q => ⟨q.1, x.trans q.2⟩
  have y1 := x0.trans x1
  have hb1 := x1.get hb0
  by_cases hc : chk S M ws = 0
  case neg =>
    simp only [hc, decide_false, Bool.not_false, coreS, Value.cells, Value.oneCell', Nat.reduceAdd, Nat.reduceSub, Nat.reduceMul, Nat.reduceLeDiff, Int.reduceEq, Nat.reduceEqDiff, M30Fs11]
    refine CallsH.mono (out _ y1) ?_
    rintro v h2 ⟨rfl, x2⟩
    simp only [coreS, Value.cells, Value.oneCell', Nat.reduceAdd, Nat.reduceSub, Nat.reduceMul, Nat.reduceLeDiff, Int.reduceEq, Nat.reduceEqDiff, M30Fs11]
    exact x2
  by_cases hl : 14 ≤ (n : Int)
  · simp only [hc, hl, hb1, decide_true, Bool.not_true, coreS, Value.cells, Value.oneCell', Nat.reduceAdd, Nat.reduceSub, Nat.reduceMul, Nat.reduceLeDiff, Int.reduceEq, Nat.reduceEqDiff, M30Fs11]
    refine CallsH.mono (out _ y1) ?_
    rintro v h2 ⟨rfl, x2⟩
    simp only [coreS, Value.cells, Value.oneCell', Nat.reduceAdd, Nat.reduceSub, Nat.reduceMul, Nat.reduceLeDiff, Int.reduceEq, Nat.reduceEqDiff, M30Fs11]
    exact x2
  obtain ⟨s, m, rfl, rfl, V⟩ := chk_ok hc
  have hV := V.n
  have v1 := V.s1
  have v2 := V.s2
  have v3 := V.m1
  have v4 := V.m2
  obtain ⟨X0, rfl⟩ : ∃ X0 : Nat, x = X0 := ⟨x.toNat, by omega⟩
  obtain ⟨Y0, rfl⟩ : ∃ Y0 : Nat, y = Y0 := ⟨y.toNat, by omega⟩
  have ex : Int.tmod (X0 : Int) (s : Int) = ((X0 % s : Nat) : Int) := (Int.ofNat_tmod X0 s).symm
  have ey : Int.tmod (Y0 : Int) (m : Int) = ((Y0 % m : Nat) : Int) := (Int.ofNat_tmod Y0 m).symm
  obtain ⟨w, hw⟩ : ∃ w : Wn, w = ⟨((X0 % s : Nat) : Int), ((Y0 % m : Nat) : Int)⟩ := ⟨_, rfl⟩
  have hs0 : ¬ (s : Int) = 0 := by omega
  have hm0 : ¬ (m : Int) = 0 := by omega
  have hws : X0 % s < s := Nat.mod_lt _ (by omega)
  have hwm : Y0 % m < m := Nat.mod_lt _ (by omega)
  simp only [hc, hl, hb1, decide_true, decide_false, Bool.not_true, coreS, Value.cells, Value.oneCell', Nat.reduceAdd, Nat.reduceSub, Nat.reduceMul, Nat.reduceLeDiff, Int.reduceEq, Nat.reduceEqDiff, M30Fs11]
  refine WP_cut [7, 29, 30, 31, 32, 33, 34, 35, 36, 37, 38, 39] (fun g h' => (∃ b, g 7 = .pointer (some ⟨b, 0, none⟩) ∧ h'[b]? = some (.cells #[.int .i64 w.s, .int .i64 w.m] 58)) ∧ Ext h1 h') ?_ ?_
  · refine WP_tree (by kernel_rfl) sta_ext (.quiet 0 (.quiet 1 (.quiet 2 (.quiet 3 (.quiet 4 (.quiet 5 (.quiet 6 (.quiet 7 (.quiet 8 (.quiet 9 (.quiet 10 (.keep 11 (.one 12 (.fin)))))))))))))) (by kernel_rfl) rfl (by kernel_rfl) ?_
    simp only [hb1, hs0, hm0, ex, ey, splice, List.drop, List.take, coreS, Value.cells, Value.oneCell', Nat.reduceAdd, Nat.reduceSub, Nat.reduceMul, Nat.reduceLeDiff, Int.reduceEq, Nat.reduceEqDiff, drawS, treeS, M30Fs11]
    refine ⟨by rw [inK_i64]; omega, by omega, by rw [inK_i64]; omega, by omega, ?_⟩
    try simp only [splice, List.drop, List.take, coreS, Value.cells, Value.oneCell', Nat.reduceAdd, Nat.reduceSub, Nat.reduceMul, Nat.reduceLeDiff, Int.reduceEq, Nat.reduceEqDiff, drawS, treeS, M30Fs11]
    refine execT_keep fun hA xA => ?_
    simp only [splice, coreS, Value.cells, Value.oneCell', Nat.reduceAdd, Nat.reduceSub, Nat.reduceMul, Nat.reduceLeDiff, Int.reduceEq, Nat.reduceEqDiff, drawS, treeS, M30Fs11]
    refine ⟨(Ext.refl hA).push _, ?_⟩
    refine execT_one fun hB xB => ?_
    have tB := xB.get (push_new (h := hA))
    simp only [tB, splice, coreS, Value.cells, Value.oneCell', Nat.reduceAdd, Nat.reduceSub, Nat.reduceMul, Nat.reduceLeDiff, Int.reduceEq, Nat.reduceEqDiff, drawS, treeS, M30Fs11]
    refine stK_abs tB (by simp) fun hC gC uC => ?_
    simp only [splice] at gC
    have xx : Ext hA hC := uC.ext xB.of_push (Nat.le_refl _)
    try simp only [coreS, Value.cells, Value.oneCell', Nat.reduceAdd, Nat.reduceSub, Nat.reduceMul, Nat.reduceLeDiff, Int.reduceEq, Nat.reduceEqDiff, drawS, treeS, M30Fs11]
    refine execT_fin fun hD xD => ?_
    simp only [coreS, Value.cells, Value.oneCell', Nat.reduceAdd, Nat.reduceSub, Nat.reduceMul, Nat.reduceLeDiff, Int.reduceEq, Nat.reduceEqDiff, M30Fs11]
    exact midK_mk (by kernel_rfl) ⟨⟨hA.size, rfl, by rw [hw]; exact xD.get gC⟩, (xA.trans xx).trans xD⟩
  rintro f3 h2 ⟨⟨b7, f7, b7c⟩, x2⟩
  have y2 := y1.trans x2
  have hb2 := x2.get hb1
  simp only [f7, coreS, Value.cells, Value.oneCell', Nat.reduceAdd, Nat.reduceSub, Nat.reduceMul, Nat.reduceLeDiff, Int.reduceEq, Nat.reduceEqDiff, M30Fs11]
  refine WP_cut [8, 40, 41, 42, 43, 44, 45, 46, 47, 48, 49, 50, 51] (fun g h' => (∃ b a' c', g 8 = .pointer (some ⟨b, 0, none⟩) ∧ h'[b]? = some (.cells #[.int .i64 s, .int .i64 m, .slice a' (n + 1) c'] 24) ∧ Row h' a' (wsV (ws ++ [w]))) ∧ Ext h2 h') ?_ ?_
  · refine WP_treeB (by kernel_rfl) (h2.size) (.pure 0 (.load 1 (.pure 2 (.load 3 (.pure 5 (.load 6 (.load 8 (.fork3 4 9 12 (.fork3 7 9 12 (.fork 9 12 (.fork 10 12 (.pure 11 (.keep 12 (.keep 13 (.fin)))) (.keep 10 (.pure 11 (.keep 13 (.fin))))) (.keep 9 (.keep 10 (.pure 11 (.keep 13 (.fin)))))) (.fork 7 12 (.fork 10 12 (.pure 11 (.keep 12 (.keep 13 (.fin)))) (.keep 10 (.pure 11 (.keep 13 (.fin))))) (.keep 7 (.keep 10 (.pure 11 (.keep 13 (.fin)))))) (.fork 7 9 (.keep 9 (.keep 10 (.pure 11 (.keep 13 (.fin))))) (.keep 7 (.keep 10 (.pure 11 (.keep 13 (.fin))))))) (.fork 4 12 (.fork 7 12 (.fork 10 12 (.pure 11 (.keep 12 (.keep 13 (.fin)))) (.keep 10 (.pure 11 (.keep 13 (.fin))))) (.keep 7 (.keep 10 (.pure 11 (.keep 13 (.fin)))))) (.keep 4 (.keep 7 (.keep 10 (.pure 11 (.keep 13 (.fin))))))) (.fork 4 9 (.fork 7 9 (.keep 9 (.keep 10 (.pure 11 (.keep 13 (.fin))))) (.keep 7 (.keep 10 (.pure 11 (.keep 13 (.fin)))))) (.keep 4 (.keep 7 (.keep 10 (.pure 11 (.keep 13 (.fin))))))))))))))) (by kernel_rfl) rfl (by kernel_rfl) ?_
    have lt2 := lt_of_get hb2
    have lt7 := lt_of_get b7c
    simp only [hb2, b7c, coreS, Value.cells, Value.oneCell', Nat.reduceAdd, Nat.reduceSub, Nat.reduceMul, Nat.reduceLeDiff, Int.reduceEq, Nat.reduceEqDiff, drawS, treeS, treeB, M30Fs11]
    refine ⟨by omega, by omega, by omega, by omega, ?_⟩
    try simp only [List.drop, List.take, splice, coreS, Value.cells, Value.oneCell', Nat.reduceAdd, Nat.reduceSub, Nat.reduceMul, Nat.reduceLeDiff, Int.reduceEq, Nat.reduceEqDiff, drawS, treeS, treeB, M30Fs11]
    refine execB_fork3 ?_ ?_ ?_
    · simp only [List.drop, List.take, splice, coreS, Value.cells, Value.oneCell', Nat.reduceAdd, Nat.reduceSub, Nat.reduceMul, Nat.reduceLeDiff, Int.reduceEq, Nat.reduceEqDiff, drawS, treeS, treeB, M30Fs11]
      refine ⟨by omega, RB.of_ext ((Ext.refl _).push _) (RB.refl h2.size h2).1, ?_⟩
      have X41 := (RB.refl h2.size h2).trans (RB.of_ext (m := h2.size) ((Ext.refl h2).push (.cells #[] 58)) (RB.refl h2.size h2).1)
      have Q41 : (Array.push h2 (.cells #[] 58))[h2.size]? = some (.cells #[] 58) := by rw [Array.getElem?_push, if_pos (by simp)]
      have gQ41 : h2.size ≤ h2.size := by have := (RB.refl h2.size h2).1; (try simp only [push_size] at this); omega
      try simp only [List.drop, List.take, splice, coreS, Value.cells, Value.oneCell', Nat.reduceAdd, Nat.reduceSub, Nat.reduceMul, Nat.reduceLeDiff, Int.reduceEq, Nat.reduceEqDiff, drawS, treeS, treeB, M30Fs11]
      refine execB_fork3 ?_ ?_ ?_
      · simp only [List.drop, List.take, splice, coreS, Value.cells, Value.oneCell', Nat.reduceAdd, Nat.reduceSub, Nat.reduceMul, Nat.reduceLeDiff, Int.reduceEq, Nat.reduceEqDiff, drawS, treeS, treeB, M30Fs11]
        refine apfW rfl rfl Q41 (hr.ext (y2.trans X41.ext)) hn.symm (by omega) fun a42 c42 h42 P42 x42 => ⟨RB.of_ext x42 X41.1, ?_⟩
        have O42 := P42.mono gQ41
        have X42 := X41.trans (RB.of_ext x42 X41.1)
        try simp only [List.drop, List.take, splice, coreS, Value.cells, Value.oneCell', Nat.reduceAdd, Nat.reduceSub, Nat.reduceMul, Nat.reduceLeDiff, Int.reduceEq, Nat.reduceEqDiff, drawS, treeS, treeB, M30Fs11]
        refine execB_fork ?_ ?_
        · simp only [List.drop, List.take, splice, coreS, Value.cells, Value.oneCell', Nat.reduceAdd, Nat.reduceSub, Nat.reduceMul, Nat.reduceLeDiff, Int.reduceEq, Nat.reduceEqDiff, drawS, treeS, treeB, M30Fs11]
          refine ⟨by omega, RB.of_ext ((Ext.refl _).push _) X42.1, ?_⟩
          have X43 := X42.trans (RB.of_ext (m := h2.size) ((Ext.refl h42).push (.cells #[.int .i64 w.s, .int .i64 w.m] 58)) X42.1)
          have W43 : (Array.push h42 (.cells #[.int .i64 w.s, .int .i64 w.m] 58))[h42.size]? = some (.cells #[.int .i64 w.s, .int .i64 w.m] 58) := by rw [Array.getElem?_push, if_pos (by simp)]
          have Q43 := push_old (o := .cells #[.int .i64 w.s, .int .i64 w.m] 58) Q41
          have O43 := O42.ext ((Ext.refl h42).push (.cells #[.int .i64 w.s, .int .i64 w.m] 58))
          have gW43 : h2.size ≤ h42.size := by have := X42.1; (try simp only [push_size] at this); omega
          try simp only [List.drop, List.take, splice, coreS, Value.cells, Value.oneCell', Nat.reduceAdd, Nat.reduceSub, Nat.reduceMul, Nat.reduceLeDiff, Int.reduceEq, Nat.reduceEqDiff, drawS, treeS, treeB, M30Fs11]
          refine execB_fork ?_ ?_
          · simp only [List.drop, List.take, splice, coreS, Value.cells, Value.oneCell', Nat.reduceAdd, Nat.reduceSub, Nat.reduceMul, Nat.reduceLeDiff, Int.reduceEq, Nat.reduceEqDiff, drawS, treeS, treeB, M30Fs11]
            refine apW (us := [w]) rfl rfl O43 X43.1 (row_at (vs := [.int .i64 w.s, .int .i64 w.m]) (cs := wsV [w]) (by rfl) W43) rfl (by omega) fun a44 c44 h44 O44 A44 => ⟨App.rbV A44 O43 (Nat.le_refl _) X43.1, ?_⟩
            have X44 := X43.trans (App.rbV A44 O43 (Nat.le_refl _) X43.1)
            try simp only [List.drop, List.take, splice, coreS, Value.cells, Value.oneCell', Nat.reduceAdd, Nat.reduceSub, Nat.reduceMul, Nat.reduceLeDiff, Int.reduceEq, Nat.reduceEqDiff, drawS, treeS, treeB, M30Fs11]
            refine execB_keep ?_
            simp only [List.drop, List.take, splice, coreS, Value.cells, Value.oneCell', Nat.reduceAdd, Nat.reduceSub, Nat.reduceMul, Nat.reduceLeDiff, Int.reduceEq, Nat.reduceEqDiff, drawS, treeS, treeB, M30Fs11]
            refine ⟨RB.of_ext ((Ext.refl _).push _) X44.1, ?_⟩
            have X45 := X44.trans (RB.of_ext (m := h2.size) ((Ext.refl h44).push (.cells #[.int .i64 0, .int .i64 0, .slice none 0 0] 24)) X44.1)
            have T45 : (Array.push h44 (.cells #[.int .i64 0, .int .i64 0, .slice none 0 0] 24))[h44.size]? = some (.cells #[.int .i64 0, .int .i64 0, .slice none 0 0] 24) := by rw [Array.getElem?_push, if_pos (by simp)]
            have Q45 := push_old (o := .cells #[.int .i64 0, .int .i64 0, .slice none 0 0] 24) Q43
            have W45 := push_old (o := .cells #[.int .i64 0, .int .i64 0, .slice none 0 0] 24) W43
            have O45 := O44.ext ((Ext.refl h44).push (.cells #[.int .i64 0, .int .i64 0, .slice none 0 0] 24))
            have gT45 : h2.size ≤ h44.size := by have := X44.1; (try simp only [push_size] at this); omega
            try simp only [List.drop, List.take, splice, coreS, Value.cells, Value.oneCell', Nat.reduceAdd, Nat.reduceSub, Nat.reduceMul, Nat.reduceLeDiff, Int.reduceEq, Nat.reduceEqDiff, drawS, treeS, treeB, M30Fs11]
            refine execB_keep ?_
            have T0 := T45
            try simp only [T0, coreS, Value.cells, Value.oneCell', Nat.reduceAdd, Nat.reduceSub, Nat.reduceMul, Nat.reduceLeDiff, Int.reduceEq, Nat.reduceEqDiff, drawS, treeS, treeB, M30Fs11]
            refine stK_abs T0 (by simp) fun h46 g46 u46 => ?_
            simp only [splice] at g46
            have uu := RB.of_upd (m := h2.size) u46 (by have := gT45; omega)
            refine ⟨uu, ?_⟩
            have XF := X45.trans uu
            have TF := g46
            have OF := O45.keep (h' := h46) (fun p hp => u46.old _ (OwnV.apart O45 T0 (by decide) p hp))
            try simp only [coreS, Value.cells, Value.oneCell', Nat.reduceAdd, Nat.reduceSub, Nat.reduceMul, Nat.reduceLeDiff, Int.reduceEq, Nat.reduceEqDiff, drawS, treeS, treeB, M30Fs11]
            try simp only [execB_fin, coreS, Value.cells, Value.oneCell', Nat.reduceAdd, Nat.reduceSub, Nat.reduceMul, Nat.reduceLeDiff, Int.reduceEq, Nat.reduceEqDiff, M30Fs11]
            have RF := OF.row
            rw [← wsV_append] at RF
            exact midK_mk (by kernel_rfl) ⟨⟨_, _, _, rfl, TF, RF⟩, XF.ext⟩
          · simp only [List.drop, List.take, splice, coreS, Value.cells, Value.oneCell', Nat.reduceAdd, Nat.reduceSub, Nat.reduceMul, Nat.reduceLeDiff, Int.reduceEq, Nat.reduceEqDiff, drawS, treeS, treeB, M30Fs11]
            refine ⟨RB.of_ext ((Ext.refl _).push _) X43.1, ?_⟩
            have X47 := X43.trans (RB.of_ext (m := h2.size) ((Ext.refl (Array.push h42 (.cells #[.int .i64 w.s, .int .i64 w.m] 58))).push (.cells #[.int .i64 0, .int .i64 0, .slice none 0 0] 24)) X43.1)
            have T47 : (Array.push (Array.push h42 (.cells #[.int .i64 w.s, .int .i64 w.m] 58)) (.cells #[.int .i64 0, .int .i64 0, .slice none 0 0] 24))[h42.size + 1]? = some (.cells #[.int .i64 0, .int .i64 0, .slice none 0 0] 24) := by rw [Array.getElem?_push, if_pos (by simp)]
            have Q47 := push_old (o := .cells #[.int .i64 0, .int .i64 0, .slice none 0 0] 24) Q43
            have W47 := push_old (o := .cells #[.int .i64 0, .int .i64 0, .slice none 0 0] 24) W43
            have O47 := O43.ext ((Ext.refl (Array.push h42 (.cells #[.int .i64 w.s, .int .i64 w.m] 58))).push (.cells #[.int .i64 0, .int .i64 0, .slice none 0 0] 24))
            have gT47 : h2.size ≤ h42.size + 1 := by have := X43.1; (try simp only [push_size] at this); omega
            try simp only [List.drop, List.take, splice, coreS, Value.cells, Value.oneCell', Nat.reduceAdd, Nat.reduceSub, Nat.reduceMul, Nat.reduceLeDiff, Int.reduceEq, Nat.reduceEqDiff, drawS, treeS, treeB, M30Fs11]
            refine execB_keep ?_
            simp only [List.drop, List.take, splice, coreS, Value.cells, Value.oneCell', Nat.reduceAdd, Nat.reduceSub, Nat.reduceMul, Nat.reduceLeDiff, Int.reduceEq, Nat.reduceEqDiff, drawS, treeS, treeB, M30Fs11]
            refine apW (us := [w]) rfl rfl O47 X47.1 (row_at (vs := [.int .i64 w.s, .int .i64 w.m]) (cs := wsV [w]) (by rfl) W47) rfl (by omega) fun a48 c48 h48 O48 A48 => ⟨App.rbV A48 O47 (Nat.le_refl _) X47.1, ?_⟩
            have X48 := X47.trans (App.rbV A48 O47 (Nat.le_refl _) X47.1)
            have T48 := (A48.old _ (lt_of_get T47) (OwnV.apart O47 T47 (by decide))).trans T47
            try simp only [List.drop, List.take, splice, coreS, Value.cells, Value.oneCell', Nat.reduceAdd, Nat.reduceSub, Nat.reduceMul, Nat.reduceLeDiff, Int.reduceEq, Nat.reduceEqDiff, drawS, treeS, treeB, M30Fs11]
            refine execB_keep ?_
            have T0 := T48
            try simp only [T0, coreS, Value.cells, Value.oneCell', Nat.reduceAdd, Nat.reduceSub, Nat.reduceMul, Nat.reduceLeDiff, Int.reduceEq, Nat.reduceEqDiff, drawS, treeS, treeB, M30Fs11]
            refine stK_abs T0 (by simp) fun h49 g49 u49 => ?_
            simp only [splice] at g49
            have uu := RB.of_upd (m := h2.size) u49 (by have := gT47; omega)
            refine ⟨uu, ?_⟩
            have XF := X48.trans uu
            have TF := g49
            have OF := O48.keep (h' := h49) (fun p hp => u49.old _ (OwnV.apart O48 T0 (by decide) p hp))
            try simp only [coreS, Value.cells, Value.oneCell', Nat.reduceAdd, Nat.reduceSub, Nat.reduceMul, Nat.reduceLeDiff, Int.reduceEq, Nat.reduceEqDiff, drawS, treeS, treeB, M30Fs11]
            try simp only [execB_fin, coreS, Value.cells, Value.oneCell', Nat.reduceAdd, Nat.reduceSub, Nat.reduceMul, Nat.reduceLeDiff, Int.reduceEq, Nat.reduceEqDiff, M30Fs11]
            have RF := OF.row
            rw [← wsV_append] at RF
            exact midK_mk (by kernel_rfl) ⟨⟨_, _, _, rfl, TF, RF⟩, XF.ext⟩
        · simp only [List.drop, List.take, splice, coreS, Value.cells, Value.oneCell', Nat.reduceAdd, Nat.reduceSub, Nat.reduceMul, Nat.reduceLeDiff, Int.reduceEq, Nat.reduceEqDiff, drawS, treeS, treeB, M30Fs11]
          refine ⟨RB.of_ext ((Ext.refl _).push _) X42.1, ?_⟩
          have X50 := X42.trans (RB.of_ext (m := h2.size) ((Ext.refl h42).push (.cells #[.int .i64 0, .int .i64 0, .slice none 0 0] 24)) X42.1)
          have T50 : (Array.push h42 (.cells #[.int .i64 0, .int .i64 0, .slice none 0 0] 24))[h42.size]? = some (.cells #[.int .i64 0, .int .i64 0, .slice none 0 0] 24) := by rw [Array.getElem?_push, if_pos (by simp)]
          have Q50 := push_old (o := .cells #[.int .i64 0, .int .i64 0, .slice none 0 0] 24) Q41
          have O50 := O42.ext ((Ext.refl h42).push (.cells #[.int .i64 0, .int .i64 0, .slice none 0 0] 24))
          have gT50 : h2.size ≤ h42.size := by have := X42.1; (try simp only [push_size] at this); omega
          try simp only [List.drop, List.take, splice, coreS, Value.cells, Value.oneCell', Nat.reduceAdd, Nat.reduceSub, Nat.reduceMul, Nat.reduceLeDiff, Int.reduceEq, Nat.reduceEqDiff, drawS, treeS, treeB, M30Fs11]
          refine execB_keep ?_
          simp only [List.drop, List.take, splice, coreS, Value.cells, Value.oneCell', Nat.reduceAdd, Nat.reduceSub, Nat.reduceMul, Nat.reduceLeDiff, Int.reduceEq, Nat.reduceEqDiff, drawS, treeS, treeB, M30Fs11]
          refine ⟨by omega, RB.of_ext ((Ext.refl _).push _) X50.1, ?_⟩
          have X51 := X50.trans (RB.of_ext (m := h2.size) ((Ext.refl (Array.push h42 (.cells #[.int .i64 0, .int .i64 0, .slice none 0 0] 24))).push (.cells #[.int .i64 w.s, .int .i64 w.m] 58)) X50.1)
          have W51 : (Array.push (Array.push h42 (.cells #[.int .i64 0, .int .i64 0, .slice none 0 0] 24)) (.cells #[.int .i64 w.s, .int .i64 w.m] 58))[h42.size + 1]? = some (.cells #[.int .i64 w.s, .int .i64 w.m] 58) := by rw [Array.getElem?_push, if_pos (by simp)]
          have T51 := push_old (o := .cells #[.int .i64 w.s, .int .i64 w.m] 58) T50
          have Q51 := push_old (o := .cells #[.int .i64 w.s, .int .i64 w.m] 58) Q50
          have O51 := O50.ext ((Ext.refl (Array.push h42 (.cells #[.int .i64 0, .int .i64 0, .slice none 0 0] 24))).push (.cells #[.int .i64 w.s, .int .i64 w.m] 58))
          have gW51 : h2.size ≤ h42.size + 1 := by have := X50.1; (try simp only [push_size] at this); omega
          try simp only [List.drop, List.take, splice, coreS, Value.cells, Value.oneCell', Nat.reduceAdd, Nat.reduceSub, Nat.reduceMul, Nat.reduceLeDiff, Int.reduceEq, Nat.reduceEqDiff, drawS, treeS, treeB, M30Fs11]
          refine execB_keep ?_
          simp only [List.drop, List.take, splice, coreS, Value.cells, Value.oneCell', Nat.reduceAdd, Nat.reduceSub, Nat.reduceMul, Nat.reduceLeDiff, Int.reduceEq, Nat.reduceEqDiff, drawS, treeS, treeB, M30Fs11]
          refine apW (us := [w]) rfl rfl O51 X51.1 (row_at (vs := [.int .i64 w.s, .int .i64 w.m]) (cs := wsV [w]) (by rfl) W51) rfl (by omega) fun a52 c52 h52 O52 A52 => ⟨App.rbV A52 O51 (Nat.le_refl _) X51.1, ?_⟩
          have X52 := X51.trans (App.rbV A52 O51 (Nat.le_refl _) X51.1)
          have T52 := (A52.old _ (lt_of_get T51) (OwnV.apart O51 T51 (by decide))).trans T51
          try simp only [List.drop, List.take, splice, coreS, Value.cells, Value.oneCell', Nat.reduceAdd, Nat.reduceSub, Nat.reduceMul, Nat.reduceLeDiff, Int.reduceEq, Nat.reduceEqDiff, drawS, treeS, treeB, M30Fs11]
          refine execB_keep ?_
          have T0 := T52
          try simp only [T0, coreS, Value.cells, Value.oneCell', Nat.reduceAdd, Nat.reduceSub, Nat.reduceMul, Nat.reduceLeDiff, Int.reduceEq, Nat.reduceEqDiff, drawS, treeS, treeB, M30Fs11]
          refine stK_abs T0 (by simp) fun h53 g53 u53 => ?_
          simp only [splice] at g53
          have uu := RB.of_upd (m := h2.size) u53 (by have := gT50; omega)
          refine ⟨uu, ?_⟩
          have XF := X52.trans uu
          have TF := g53
          have OF := O52.keep (h' := h53) (fun p hp => u53.old _ (OwnV.apart O52 T0 (by decide) p hp))
          try simp only [coreS, Value.cells, Value.oneCell', Nat.reduceAdd, Nat.reduceSub, Nat.reduceMul, Nat.reduceLeDiff, Int.reduceEq, Nat.reduceEqDiff, drawS, treeS, treeB, M30Fs11]
          try simp only [execB_fin, coreS, Value.cells, Value.oneCell', Nat.reduceAdd, Nat.reduceSub, Nat.reduceMul, Nat.reduceLeDiff, Int.reduceEq, Nat.reduceEqDiff, M30Fs11]
          have RF := OF.row
          rw [← wsV_append] at RF
          exact midK_mk (by kernel_rfl) ⟨⟨_, _, _, rfl, TF, RF⟩, XF.ext⟩
      · simp only [List.drop, List.take, splice, coreS, Value.cells, Value.oneCell', Nat.reduceAdd, Nat.reduceSub, Nat.reduceMul, Nat.reduceLeDiff, Int.reduceEq, Nat.reduceEqDiff, drawS, treeS, treeB, M30Fs11]
        refine ⟨by omega, RB.of_ext ((Ext.refl _).push _) X41.1, ?_⟩
        have X54 := X41.trans (RB.of_ext (m := h2.size) ((Ext.refl (Array.push h2 (.cells #[] 58))).push (.cells #[.int .i64 w.s, .int .i64 w.m] 58)) X41.1)
        have W54 : (Array.push (Array.push h2 (.cells #[] 58)) (.cells #[.int .i64 w.s, .int .i64 w.m] 58))[h2.size + 1]? = some (.cells #[.int .i64 w.s, .int .i64 w.m] 58) := by rw [Array.getElem?_push, if_pos (by simp)]
        have Q54 := push_old (o := .cells #[.int .i64 w.s, .int .i64 w.m] 58) Q41
        have gW54 : h2.size ≤ h2.size + 1 := by have := X41.1; (try simp only [push_size] at this); omega
        try simp only [List.drop, List.take, splice, coreS, Value.cells, Value.oneCell', Nat.reduceAdd, Nat.reduceSub, Nat.reduceMul, Nat.reduceLeDiff, Int.reduceEq, Nat.reduceEqDiff, drawS, treeS, treeB, M30Fs11]
        refine execB_fork ?_ ?_
        · simp only [List.drop, List.take, splice, coreS, Value.cells, Value.oneCell', Nat.reduceAdd, Nat.reduceSub, Nat.reduceMul, Nat.reduceLeDiff, Int.reduceEq, Nat.reduceEqDiff, drawS, treeS, treeB, M30Fs11]
          refine apfW rfl rfl Q54 (hr.ext (y2.trans X54.ext)) hn.symm (by omega) fun a55 c55 h55 P55 x55 => ⟨RB.of_ext x55 X54.1, ?_⟩
          have O55 := P55.mono gQ41
          have X55 := X54.trans (RB.of_ext x55 X54.1)
          have W55 := x55.get W54
          try simp only [List.drop, List.take, splice, coreS, Value.cells, Value.oneCell', Nat.reduceAdd, Nat.reduceSub, Nat.reduceMul, Nat.reduceLeDiff, Int.reduceEq, Nat.reduceEqDiff, drawS, treeS, treeB, M30Fs11]
          refine execB_fork ?_ ?_
          · simp only [List.drop, List.take, splice, coreS, Value.cells, Value.oneCell', Nat.reduceAdd, Nat.reduceSub, Nat.reduceMul, Nat.reduceLeDiff, Int.reduceEq, Nat.reduceEqDiff, drawS, treeS, treeB, M30Fs11]
            refine apW (us := [w]) rfl rfl O55 X55.1 (row_at (vs := [.int .i64 w.s, .int .i64 w.m]) (cs := wsV [w]) (by rfl) W55) rfl (by omega) fun a56 c56 h56 O56 A56 => ⟨App.rbV A56 O55 (Nat.le_refl _) X55.1, ?_⟩
            have X56 := X55.trans (App.rbV A56 O55 (Nat.le_refl _) X55.1)
            try simp only [List.drop, List.take, splice, coreS, Value.cells, Value.oneCell', Nat.reduceAdd, Nat.reduceSub, Nat.reduceMul, Nat.reduceLeDiff, Int.reduceEq, Nat.reduceEqDiff, drawS, treeS, treeB, M30Fs11]
            refine execB_keep ?_
            simp only [List.drop, List.take, splice, coreS, Value.cells, Value.oneCell', Nat.reduceAdd, Nat.reduceSub, Nat.reduceMul, Nat.reduceLeDiff, Int.reduceEq, Nat.reduceEqDiff, drawS, treeS, treeB, M30Fs11]
            refine ⟨RB.of_ext ((Ext.refl _).push _) X56.1, ?_⟩
            have X57 := X56.trans (RB.of_ext (m := h2.size) ((Ext.refl h56).push (.cells #[.int .i64 0, .int .i64 0, .slice none 0 0] 24)) X56.1)
            have T57 : (Array.push h56 (.cells #[.int .i64 0, .int .i64 0, .slice none 0 0] 24))[h56.size]? = some (.cells #[.int .i64 0, .int .i64 0, .slice none 0 0] 24) := by rw [Array.getElem?_push, if_pos (by simp)]
            have Q57 := push_old (o := .cells #[.int .i64 0, .int .i64 0, .slice none 0 0] 24) Q54
            have W57 := push_old (o := .cells #[.int .i64 0, .int .i64 0, .slice none 0 0] 24) W55
            have O57 := O56.ext ((Ext.refl h56).push (.cells #[.int .i64 0, .int .i64 0, .slice none 0 0] 24))
            have gT57 : h2.size ≤ h56.size := by have := X56.1; (try simp only [push_size] at this); omega
            try simp only [List.drop, List.take, splice, coreS, Value.cells, Value.oneCell', Nat.reduceAdd, Nat.reduceSub, Nat.reduceMul, Nat.reduceLeDiff, Int.reduceEq, Nat.reduceEqDiff, drawS, treeS, treeB, M30Fs11]
            refine execB_keep ?_
            have T0 := T57
            try simp only [T0, coreS, Value.cells, Value.oneCell', Nat.reduceAdd, Nat.reduceSub, Nat.reduceMul, Nat.reduceLeDiff, Int.reduceEq, Nat.reduceEqDiff, drawS, treeS, treeB, M30Fs11]
            refine stK_abs T0 (by simp) fun h58 g58 u58 => ?_
            simp only [splice] at g58
            have uu := RB.of_upd (m := h2.size) u58 (by have := gT57; omega)
            refine ⟨uu, ?_⟩
            have XF := X57.trans uu
            have TF := g58
            have OF := O57.keep (h' := h58) (fun p hp => u58.old _ (OwnV.apart O57 T0 (by decide) p hp))
            try simp only [coreS, Value.cells, Value.oneCell', Nat.reduceAdd, Nat.reduceSub, Nat.reduceMul, Nat.reduceLeDiff, Int.reduceEq, Nat.reduceEqDiff, drawS, treeS, treeB, M30Fs11]
            try simp only [execB_fin, coreS, Value.cells, Value.oneCell', Nat.reduceAdd, Nat.reduceSub, Nat.reduceMul, Nat.reduceLeDiff, Int.reduceEq, Nat.reduceEqDiff, M30Fs11]
            have RF := OF.row
            rw [← wsV_append] at RF
            exact midK_mk (by kernel_rfl) ⟨⟨_, _, _, rfl, TF, RF⟩, XF.ext⟩
          · simp only [List.drop, List.take, splice, coreS, Value.cells, Value.oneCell', Nat.reduceAdd, Nat.reduceSub, Nat.reduceMul, Nat.reduceLeDiff, Int.reduceEq, Nat.reduceEqDiff, drawS, treeS, treeB, M30Fs11]
            refine ⟨RB.of_ext ((Ext.refl _).push _) X55.1, ?_⟩
            have X59 := X55.trans (RB.of_ext (m := h2.size) ((Ext.refl h55).push (.cells #[.int .i64 0, .int .i64 0, .slice none 0 0] 24)) X55.1)
            have T59 : (Array.push h55 (.cells #[.int .i64 0, .int .i64 0, .slice none 0 0] 24))[h55.size]? = some (.cells #[.int .i64 0, .int .i64 0, .slice none 0 0] 24) := by rw [Array.getElem?_push, if_pos (by simp)]
            have Q59 := push_old (o := .cells #[.int .i64 0, .int .i64 0, .slice none 0 0] 24) Q54
            have W59 := push_old (o := .cells #[.int .i64 0, .int .i64 0, .slice none 0 0] 24) W55
            have O59 := O55.ext ((Ext.refl h55).push (.cells #[.int .i64 0, .int .i64 0, .slice none 0 0] 24))
            have gT59 : h2.size ≤ h55.size := by have := X55.1; (try simp only [push_size] at this); omega
            try simp only [List.drop, List.take, splice, coreS, Value.cells, Value.oneCell', Nat.reduceAdd, Nat.reduceSub, Nat.reduceMul, Nat.reduceLeDiff, Int.reduceEq, Nat.reduceEqDiff, drawS, treeS, treeB, M30Fs11]
            refine execB_keep ?_
            simp only [List.drop, List.take, splice, coreS, Value.cells, Value.oneCell', Nat.reduceAdd, Nat.reduceSub, Nat.reduceMul, Nat.reduceLeDiff, Int.reduceEq, Nat.reduceEqDiff, drawS, treeS, treeB, M30Fs11]
            refine apW (us := [w]) rfl rfl O59 X59.1 (row_at (vs := [.int .i64 w.s, .int .i64 w.m]) (cs := wsV [w]) (by rfl) W59) rfl (by omega) fun a60 c60 h60 O60 A60 => ⟨App.rbV A60 O59 (Nat.le_refl _) X59.1, ?_⟩
            have X60 := X59.trans (App.rbV A60 O59 (Nat.le_refl _) X59.1)
            have T60 := (A60.old _ (lt_of_get T59) (OwnV.apart O59 T59 (by decide))).trans T59
            try simp only [List.drop, List.take, splice, coreS, Value.cells, Value.oneCell', Nat.reduceAdd, Nat.reduceSub, Nat.reduceMul, Nat.reduceLeDiff, Int.reduceEq, Nat.reduceEqDiff, drawS, treeS, treeB, M30Fs11]
            refine execB_keep ?_
            have T0 := T60
            try simp only [T0, coreS, Value.cells, Value.oneCell', Nat.reduceAdd, Nat.reduceSub, Nat.reduceMul, Nat.reduceLeDiff, Int.reduceEq, Nat.reduceEqDiff, drawS, treeS, treeB, M30Fs11]
            refine stK_abs T0 (by simp) fun h61 g61 u61 => ?_
            simp only [splice] at g61
            have uu := RB.of_upd (m := h2.size) u61 (by have := gT59; omega)
            refine ⟨uu, ?_⟩
            have XF := X60.trans uu
            have TF := g61
            have OF := O60.keep (h' := h61) (fun p hp => u61.old _ (OwnV.apart O60 T0 (by decide) p hp))
            try simp only [coreS, Value.cells, Value.oneCell', Nat.reduceAdd, Nat.reduceSub, Nat.reduceMul, Nat.reduceLeDiff, Int.reduceEq, Nat.reduceEqDiff, drawS, treeS, treeB, M30Fs11]
            try simp only [execB_fin, coreS, Value.cells, Value.oneCell', Nat.reduceAdd, Nat.reduceSub, Nat.reduceMul, Nat.reduceLeDiff, Int.reduceEq, Nat.reduceEqDiff, M30Fs11]
            have RF := OF.row
            rw [← wsV_append] at RF
            exact midK_mk (by kernel_rfl) ⟨⟨_, _, _, rfl, TF, RF⟩, XF.ext⟩
        · simp only [List.drop, List.take, splice, coreS, Value.cells, Value.oneCell', Nat.reduceAdd, Nat.reduceSub, Nat.reduceMul, Nat.reduceLeDiff, Int.reduceEq, Nat.reduceEqDiff, drawS, treeS, treeB, M30Fs11]
          refine ⟨RB.of_ext ((Ext.refl _).push _) X54.1, ?_⟩
          have X62 := X54.trans (RB.of_ext (m := h2.size) ((Ext.refl (Array.push (Array.push h2 (.cells #[] 58)) (.cells #[.int .i64 w.s, .int .i64 w.m] 58))).push (.cells #[.int .i64 0, .int .i64 0, .slice none 0 0] 24)) X54.1)
          have T62 : (Array.push (Array.push (Array.push h2 (.cells #[] 58)) (.cells #[.int .i64 w.s, .int .i64 w.m] 58)) (.cells #[.int .i64 0, .int .i64 0, .slice none 0 0] 24))[h2.size + 1 + 1]? = some (.cells #[.int .i64 0, .int .i64 0, .slice none 0 0] 24) := by rw [Array.getElem?_push, if_pos (by simp)]
          have Q62 := push_old (o := .cells #[.int .i64 0, .int .i64 0, .slice none 0 0] 24) Q54
          have W62 := push_old (o := .cells #[.int .i64 0, .int .i64 0, .slice none 0 0] 24) W54
          have gT62 : h2.size ≤ h2.size + 1 + 1 := by have := X54.1; (try simp only [push_size] at this); omega
          try simp only [List.drop, List.take, splice, coreS, Value.cells, Value.oneCell', Nat.reduceAdd, Nat.reduceSub, Nat.reduceMul, Nat.reduceLeDiff, Int.reduceEq, Nat.reduceEqDiff, drawS, treeS, treeB, M30Fs11]
          refine execB_keep ?_
          simp only [List.drop, List.take, splice, coreS, Value.cells, Value.oneCell', Nat.reduceAdd, Nat.reduceSub, Nat.reduceMul, Nat.reduceLeDiff, Int.reduceEq, Nat.reduceEqDiff, drawS, treeS, treeB, M30Fs11]
          refine apfW rfl rfl Q62 (hr.ext (y2.trans X62.ext)) hn.symm (by omega) fun a63 c63 h63 P63 x63 => ⟨RB.of_ext x63 X62.1, ?_⟩
          have O63 := P63.mono gQ41
          have X63 := X62.trans (RB.of_ext x63 X62.1)
          have T63 := x63.get T62
          have W63 := x63.get W62
          try simp only [List.drop, List.take, splice, coreS, Value.cells, Value.oneCell', Nat.reduceAdd, Nat.reduceSub, Nat.reduceMul, Nat.reduceLeDiff, Int.reduceEq, Nat.reduceEqDiff, drawS, treeS, treeB, M30Fs11]
          refine execB_keep ?_
          simp only [List.drop, List.take, splice, coreS, Value.cells, Value.oneCell', Nat.reduceAdd, Nat.reduceSub, Nat.reduceMul, Nat.reduceLeDiff, Int.reduceEq, Nat.reduceEqDiff, drawS, treeS, treeB, M30Fs11]
          refine apW (us := [w]) rfl rfl O63 X63.1 (row_at (vs := [.int .i64 w.s, .int .i64 w.m]) (cs := wsV [w]) (by rfl) W63) rfl (by omega) fun a64 c64 h64 O64 A64 => ⟨App.rbV A64 O63 (Nat.le_refl _) X63.1, ?_⟩
          have X64 := X63.trans (App.rbV A64 O63 (Nat.le_refl _) X63.1)
          have T64 := (A64.old _ (lt_of_get T63) (OwnV.apart O63 T63 (by decide))).trans T63
          try simp only [List.drop, List.take, splice, coreS, Value.cells, Value.oneCell', Nat.reduceAdd, Nat.reduceSub, Nat.reduceMul, Nat.reduceLeDiff, Int.reduceEq, Nat.reduceEqDiff, drawS, treeS, treeB, M30Fs11]
          refine execB_keep ?_
          have T0 := T64
          try simp only [T0, coreS, Value.cells, Value.oneCell', Nat.reduceAdd, Nat.reduceSub, Nat.reduceMul, Nat.reduceLeDiff, Int.reduceEq, Nat.reduceEqDiff, drawS, treeS, treeB, M30Fs11]
          refine stK_abs T0 (by simp) fun h65 g65 u65 => ?_
          simp only [splice] at g65
          have uu := RB.of_upd (m := h2.size) u65 (by have := gT62; omega)
          refine ⟨uu, ?_⟩
          have XF := X64.trans uu
          have TF := g65
          have OF := O64.keep (h' := h65) (fun p hp => u65.old _ (OwnV.apart O64 T0 (by decide) p hp))
          try simp only [coreS, Value.cells, Value.oneCell', Nat.reduceAdd, Nat.reduceSub, Nat.reduceMul, Nat.reduceLeDiff, Int.reduceEq, Nat.reduceEqDiff, drawS, treeS, treeB, M30Fs11]
          try simp only [execB_fin, coreS, Value.cells, Value.oneCell', Nat.reduceAdd, Nat.reduceSub, Nat.reduceMul, Nat.reduceLeDiff, Int.reduceEq, Nat.reduceEqDiff, M30Fs11]
          have RF := OF.row
          rw [← wsV_append] at RF
          exact midK_mk (by kernel_rfl) ⟨⟨_, _, _, rfl, TF, RF⟩, XF.ext⟩
      · simp only [List.drop, List.take, splice, coreS, Value.cells, Value.oneCell', Nat.reduceAdd, Nat.reduceSub, Nat.reduceMul, Nat.reduceLeDiff, Int.reduceEq, Nat.reduceEqDiff, drawS, treeS, treeB, M30Fs11]
        refine ⟨RB.of_ext ((Ext.refl _).push _) X41.1, ?_⟩
        have X66 := X41.trans (RB.of_ext (m := h2.size) ((Ext.refl (Array.push h2 (.cells #[] 58))).push (.cells #[.int .i64 0, .int .i64 0, .slice none 0 0] 24)) X41.1)
        have T66 : (Array.push (Array.push h2 (.cells #[] 58)) (.cells #[.int .i64 0, .int .i64 0, .slice none 0 0] 24))[h2.size + 1]? = some (.cells #[.int .i64 0, .int .i64 0, .slice none 0 0] 24) := by rw [Array.getElem?_push, if_pos (by simp)]
        have Q66 := push_old (o := .cells #[.int .i64 0, .int .i64 0, .slice none 0 0] 24) Q41
        have gT66 : h2.size ≤ h2.size + 1 := by have := X41.1; (try simp only [push_size] at this); omega
        try simp only [List.drop, List.take, splice, coreS, Value.cells, Value.oneCell', Nat.reduceAdd, Nat.reduceSub, Nat.reduceMul, Nat.reduceLeDiff, Int.reduceEq, Nat.reduceEqDiff, drawS, treeS, treeB, M30Fs11]
        refine execB_fork ?_ ?_
        · simp only [List.drop, List.take, splice, coreS, Value.cells, Value.oneCell', Nat.reduceAdd, Nat.reduceSub, Nat.reduceMul, Nat.reduceLeDiff, Int.reduceEq, Nat.reduceEqDiff, drawS, treeS, treeB, M30Fs11]
          refine apfW rfl rfl Q66 (hr.ext (y2.trans X66.ext)) hn.symm (by omega) fun a67 c67 h67 P67 x67 => ⟨RB.of_ext x67 X66.1, ?_⟩
          have O67 := P67.mono gQ41
          have X67 := X66.trans (RB.of_ext x67 X66.1)
          have T67 := x67.get T66
          try simp only [List.drop, List.take, splice, coreS, Value.cells, Value.oneCell', Nat.reduceAdd, Nat.reduceSub, Nat.reduceMul, Nat.reduceLeDiff, Int.reduceEq, Nat.reduceEqDiff, drawS, treeS, treeB, M30Fs11]
          refine execB_keep ?_
          simp only [List.drop, List.take, splice, coreS, Value.cells, Value.oneCell', Nat.reduceAdd, Nat.reduceSub, Nat.reduceMul, Nat.reduceLeDiff, Int.reduceEq, Nat.reduceEqDiff, drawS, treeS, treeB, M30Fs11]
          refine ⟨by omega, RB.of_ext ((Ext.refl _).push _) X67.1, ?_⟩
          have X68 := X67.trans (RB.of_ext (m := h2.size) ((Ext.refl h67).push (.cells #[.int .i64 w.s, .int .i64 w.m] 58)) X67.1)
          have W68 : (Array.push h67 (.cells #[.int .i64 w.s, .int .i64 w.m] 58))[h67.size]? = some (.cells #[.int .i64 w.s, .int .i64 w.m] 58) := by rw [Array.getElem?_push, if_pos (by simp)]
          have T68 := push_old (o := .cells #[.int .i64 w.s, .int .i64 w.m] 58) T67
          have Q68 := push_old (o := .cells #[.int .i64 w.s, .int .i64 w.m] 58) Q66
          have O68 := O67.ext ((Ext.refl h67).push (.cells #[.int .i64 w.s, .int .i64 w.m] 58))
          have gW68 : h2.size ≤ h67.size := by have := X67.1; (try simp only [push_size] at this); omega
          try simp only [List.drop, List.take, splice, coreS, Value.cells, Value.oneCell', Nat.reduceAdd, Nat.reduceSub, Nat.reduceMul, Nat.reduceLeDiff, Int.reduceEq, Nat.reduceEqDiff, drawS, treeS, treeB, M30Fs11]
          refine execB_keep ?_
          simp only [List.drop, List.take, splice, coreS, Value.cells, Value.oneCell', Nat.reduceAdd, Nat.reduceSub, Nat.reduceMul, Nat.reduceLeDiff, Int.reduceEq, Nat.reduceEqDiff, drawS, treeS, treeB, M30Fs11]
          refine apW (us := [w]) rfl rfl O68 X68.1 (row_at (vs := [.int .i64 w.s, .int .i64 w.m]) (cs := wsV [w]) (by rfl) W68) rfl (by omega) fun a69 c69 h69 O69 A69 => ⟨App.rbV A69 O68 (Nat.le_refl _) X68.1, ?_⟩
          have X69 := X68.trans (App.rbV A69 O68 (Nat.le_refl _) X68.1)
          have T69 := (A69.old _ (lt_of_get T68) (OwnV.apart O68 T68 (by decide))).trans T68
          try simp only [List.drop, List.take, splice, coreS, Value.cells, Value.oneCell', Nat.reduceAdd, Nat.reduceSub, Nat.reduceMul, Nat.reduceLeDiff, Int.reduceEq, Nat.reduceEqDiff, drawS, treeS, treeB, M30Fs11]
          refine execB_keep ?_
          have T0 := T69
          try simp only [T0, coreS, Value.cells, Value.oneCell', Nat.reduceAdd, Nat.reduceSub, Nat.reduceMul, Nat.reduceLeDiff, Int.reduceEq, Nat.reduceEqDiff, drawS, treeS, treeB, M30Fs11]
          refine stK_abs T0 (by simp) fun h70 g70 u70 => ?_
          simp only [splice] at g70
          have uu := RB.of_upd (m := h2.size) u70 (by have := gT66; omega)
          refine ⟨uu, ?_⟩
          have XF := X69.trans uu
          have TF := g70
          have OF := O69.keep (h' := h70) (fun p hp => u70.old _ (OwnV.apart O69 T0 (by decide) p hp))
          try simp only [coreS, Value.cells, Value.oneCell', Nat.reduceAdd, Nat.reduceSub, Nat.reduceMul, Nat.reduceLeDiff, Int.reduceEq, Nat.reduceEqDiff, drawS, treeS, treeB, M30Fs11]
          try simp only [execB_fin, coreS, Value.cells, Value.oneCell', Nat.reduceAdd, Nat.reduceSub, Nat.reduceMul, Nat.reduceLeDiff, Int.reduceEq, Nat.reduceEqDiff, M30Fs11]
          have RF := OF.row
          rw [← wsV_append] at RF
          exact midK_mk (by kernel_rfl) ⟨⟨_, _, _, rfl, TF, RF⟩, XF.ext⟩
        · simp only [List.drop, List.take, splice, coreS, Value.cells, Value.oneCell', Nat.reduceAdd, Nat.reduceSub, Nat.reduceMul, Nat.reduceLeDiff, Int.reduceEq, Nat.reduceEqDiff, drawS, treeS, treeB, M30Fs11]
          refine ⟨by omega, RB.of_ext ((Ext.refl _).push _) X66.1, ?_⟩
          have X71 := X66.trans (RB.of_ext (m := h2.size) ((Ext.refl (Array.push (Array.push h2 (.cells #[] 58)) (.cells #[.int .i64 0, .int .i64 0, .slice none 0 0] 24))).push (.cells #[.int .i64 w.s, .int .i64 w.m] 58)) X66.1)
          have W71 : (Array.push (Array.push (Array.push h2 (.cells #[] 58)) (.cells #[.int .i64 0, .int .i64 0, .slice none 0 0] 24)) (.cells #[.int .i64 w.s, .int .i64 w.m] 58))[h2.size + 1 + 1]? = some (.cells #[.int .i64 w.s, .int .i64 w.m] 58) := by rw [Array.getElem?_push, if_pos (by simp)]
          have T71 := push_old (o := .cells #[.int .i64 w.s, .int .i64 w.m] 58) T66
          have Q71 := push_old (o := .cells #[.int .i64 w.s, .int .i64 w.m] 58) Q66
          have gW71 : h2.size ≤ h2.size + 1 + 1 := by have := X66.1; (try simp only [push_size] at this); omega
          try simp only [List.drop, List.take, splice, coreS, Value.cells, Value.oneCell', Nat.reduceAdd, Nat.reduceSub, Nat.reduceMul, Nat.reduceLeDiff, Int.reduceEq, Nat.reduceEqDiff, drawS, treeS, treeB, M30Fs11]
          refine execB_keep ?_
          simp only [List.drop, List.take, splice, coreS, Value.cells, Value.oneCell', Nat.reduceAdd, Nat.reduceSub, Nat.reduceMul, Nat.reduceLeDiff, Int.reduceEq, Nat.reduceEqDiff, drawS, treeS, treeB, M30Fs11]
          refine apfW rfl rfl Q71 (hr.ext (y2.trans X71.ext)) hn.symm (by omega) fun a72 c72 h72 P72 x72 => ⟨RB.of_ext x72 X71.1, ?_⟩
          have O72 := P72.mono gQ41
          have X72 := X71.trans (RB.of_ext x72 X71.1)
          have T72 := x72.get T71
          have W72 := x72.get W71
          try simp only [List.drop, List.take, splice, coreS, Value.cells, Value.oneCell', Nat.reduceAdd, Nat.reduceSub, Nat.reduceMul, Nat.reduceLeDiff, Int.reduceEq, Nat.reduceEqDiff, drawS, treeS, treeB, M30Fs11]
          refine execB_keep ?_
          simp only [List.drop, List.take, splice, coreS, Value.cells, Value.oneCell', Nat.reduceAdd, Nat.reduceSub, Nat.reduceMul, Nat.reduceLeDiff, Int.reduceEq, Nat.reduceEqDiff, drawS, treeS, treeB, M30Fs11]
          refine apW (us := [w]) rfl rfl O72 X72.1 (row_at (vs := [.int .i64 w.s, .int .i64 w.m]) (cs := wsV [w]) (by rfl) W72) rfl (by omega) fun a73 c73 h73 O73 A73 => ⟨App.rbV A73 O72 (Nat.le_refl _) X72.1, ?_⟩
          have X73 := X72.trans (App.rbV A73 O72 (Nat.le_refl _) X72.1)
          have T73 := (A73.old _ (lt_of_get T72) (OwnV.apart O72 T72 (by decide))).trans T72
          try simp only [List.drop, List.take, splice, coreS, Value.cells, Value.oneCell', Nat.reduceAdd, Nat.reduceSub, Nat.reduceMul, Nat.reduceLeDiff, Int.reduceEq, Nat.reduceEqDiff, drawS, treeS, treeB, M30Fs11]
          refine execB_keep ?_
          have T0 := T73
          try simp only [T0, coreS, Value.cells, Value.oneCell', Nat.reduceAdd, Nat.reduceSub, Nat.reduceMul, Nat.reduceLeDiff, Int.reduceEq, Nat.reduceEqDiff, drawS, treeS, treeB, M30Fs11]
          refine stK_abs T0 (by simp) fun h74 g74 u74 => ?_
          simp only [splice] at g74
          have uu := RB.of_upd (m := h2.size) u74 (by have := gT66; omega)
          refine ⟨uu, ?_⟩
          have XF := X73.trans uu
          have TF := g74
          have OF := O73.keep (h' := h74) (fun p hp => u74.old _ (OwnV.apart O73 T0 (by decide) p hp))
          try simp only [coreS, Value.cells, Value.oneCell', Nat.reduceAdd, Nat.reduceSub, Nat.reduceMul, Nat.reduceLeDiff, Int.reduceEq, Nat.reduceEqDiff, drawS, treeS, treeB, M30Fs11]
          try simp only [execB_fin, coreS, Value.cells, Value.oneCell', Nat.reduceAdd, Nat.reduceSub, Nat.reduceMul, Nat.reduceLeDiff, Int.reduceEq, Nat.reduceEqDiff, M30Fs11]
          have RF := OF.row
          rw [← wsV_append] at RF
          exact midK_mk (by kernel_rfl) ⟨⟨_, _, _, rfl, TF, RF⟩, XF.ext⟩
    · simp only [List.drop, List.take, splice, coreS, Value.cells, Value.oneCell', Nat.reduceAdd, Nat.reduceSub, Nat.reduceMul, Nat.reduceLeDiff, Int.reduceEq, Nat.reduceEqDiff, drawS, treeS, treeB, M30Fs11]
      refine ⟨by omega, RB.of_ext ((Ext.refl _).push _) (RB.refl h2.size h2).1, ?_⟩
      have X75 := (RB.refl h2.size h2).trans (RB.of_ext (m := h2.size) ((Ext.refl h2).push (.cells #[.int .i64 w.s, .int .i64 w.m] 58)) (RB.refl h2.size h2).1)
      have W75 : (Array.push h2 (.cells #[.int .i64 w.s, .int .i64 w.m] 58))[h2.size]? = some (.cells #[.int .i64 w.s, .int .i64 w.m] 58) := by rw [Array.getElem?_push, if_pos (by simp)]
      have gW75 : h2.size ≤ h2.size := by have := (RB.refl h2.size h2).1; (try simp only [push_size] at this); omega
      try simp only [List.drop, List.take, splice, coreS, Value.cells, Value.oneCell', Nat.reduceAdd, Nat.reduceSub, Nat.reduceMul, Nat.reduceLeDiff, Int.reduceEq, Nat.reduceEqDiff, drawS, treeS, treeB, M30Fs11]
      refine execB_fork ?_ ?_
      · simp only [List.drop, List.take, splice, coreS, Value.cells, Value.oneCell', Nat.reduceAdd, Nat.reduceSub, Nat.reduceMul, Nat.reduceLeDiff, Int.reduceEq, Nat.reduceEqDiff, drawS, treeS, treeB, M30Fs11]
        refine ⟨by omega, RB.of_ext ((Ext.refl _).push _) X75.1, ?_⟩
        have X76 := X75.trans (RB.of_ext (m := h2.size) ((Ext.refl (Array.push h2 (.cells #[.int .i64 w.s, .int .i64 w.m] 58))).push (.cells #[] 58)) X75.1)
        have Q76 : (Array.push (Array.push h2 (.cells #[.int .i64 w.s, .int .i64 w.m] 58)) (.cells #[] 58))[h2.size + 1]? = some (.cells #[] 58) := by rw [Array.getElem?_push, if_pos (by simp)]
        have W76 := push_old (o := .cells #[] 58) W75
        have gQ76 : h2.size ≤ h2.size + 1 := by have := X75.1; (try simp only [push_size] at this); omega
        try simp only [List.drop, List.take, splice, coreS, Value.cells, Value.oneCell', Nat.reduceAdd, Nat.reduceSub, Nat.reduceMul, Nat.reduceLeDiff, Int.reduceEq, Nat.reduceEqDiff, drawS, treeS, treeB, M30Fs11]
        refine execB_fork ?_ ?_
        · simp only [List.drop, List.take, splice, coreS, Value.cells, Value.oneCell', Nat.reduceAdd, Nat.reduceSub, Nat.reduceMul, Nat.reduceLeDiff, Int.reduceEq, Nat.reduceEqDiff, drawS, treeS, treeB, M30Fs11]
          refine apfW rfl rfl Q76 (hr.ext (y2.trans X76.ext)) hn.symm (by omega) fun a77 c77 h77 P77 x77 => ⟨RB.of_ext x77 X76.1, ?_⟩
          have O77 := P77.mono gQ76
          have X77 := X76.trans (RB.of_ext x77 X76.1)
          have W77 := x77.get W76
          try simp only [List.drop, List.take, splice, coreS, Value.cells, Value.oneCell', Nat.reduceAdd, Nat.reduceSub, Nat.reduceMul, Nat.reduceLeDiff, Int.reduceEq, Nat.reduceEqDiff, drawS, treeS, treeB, M30Fs11]
          refine execB_fork ?_ ?_
          · simp only [List.drop, List.take, splice, coreS, Value.cells, Value.oneCell', Nat.reduceAdd, Nat.reduceSub, Nat.reduceMul, Nat.reduceLeDiff, Int.reduceEq, Nat.reduceEqDiff, drawS, treeS, treeB, M30Fs11]
            refine apW (us := [w]) rfl rfl O77 X77.1 (row_at (vs := [.int .i64 w.s, .int .i64 w.m]) (cs := wsV [w]) (by rfl) W77) rfl (by omega) fun a78 c78 h78 O78 A78 => ⟨App.rbV A78 O77 (Nat.le_refl _) X77.1, ?_⟩
            have X78 := X77.trans (App.rbV A78 O77 (Nat.le_refl _) X77.1)
            try simp only [List.drop, List.take, splice, coreS, Value.cells, Value.oneCell', Nat.reduceAdd, Nat.reduceSub, Nat.reduceMul, Nat.reduceLeDiff, Int.reduceEq, Nat.reduceEqDiff, drawS, treeS, treeB, M30Fs11]
            refine execB_keep ?_
            simp only [List.drop, List.take, splice, coreS, Value.cells, Value.oneCell', Nat.reduceAdd, Nat.reduceSub, Nat.reduceMul, Nat.reduceLeDiff, Int.reduceEq, Nat.reduceEqDiff, drawS, treeS, treeB, M30Fs11]
            refine ⟨RB.of_ext ((Ext.refl _).push _) X78.1, ?_⟩
            have X79 := X78.trans (RB.of_ext (m := h2.size) ((Ext.refl h78).push (.cells #[.int .i64 0, .int .i64 0, .slice none 0 0] 24)) X78.1)
            have T79 : (Array.push h78 (.cells #[.int .i64 0, .int .i64 0, .slice none 0 0] 24))[h78.size]? = some (.cells #[.int .i64 0, .int .i64 0, .slice none 0 0] 24) := by rw [Array.getElem?_push, if_pos (by simp)]
            have Q79 := push_old (o := .cells #[.int .i64 0, .int .i64 0, .slice none 0 0] 24) Q76
            have W79 := push_old (o := .cells #[.int .i64 0, .int .i64 0, .slice none 0 0] 24) W77
            have O79 := O78.ext ((Ext.refl h78).push (.cells #[.int .i64 0, .int .i64 0, .slice none 0 0] 24))
            have gT79 : h2.size ≤ h78.size := by have := X78.1; (try simp only [push_size] at this); omega
            try simp only [List.drop, List.take, splice, coreS, Value.cells, Value.oneCell', Nat.reduceAdd, Nat.reduceSub, Nat.reduceMul, Nat.reduceLeDiff, Int.reduceEq, Nat.reduceEqDiff, drawS, treeS, treeB, M30Fs11]
            refine execB_keep ?_
            have T0 := T79
            try simp only [T0, coreS, Value.cells, Value.oneCell', Nat.reduceAdd, Nat.reduceSub, Nat.reduceMul, Nat.reduceLeDiff, Int.reduceEq, Nat.reduceEqDiff, drawS, treeS, treeB, M30Fs11]
            refine stK_abs T0 (by simp) fun h80 g80 u80 => ?_
            simp only [splice] at g80
            have uu := RB.of_upd (m := h2.size) u80 (by have := gT79; omega)
            refine ⟨uu, ?_⟩
            have XF := X79.trans uu
            have TF := g80
            have OF := O79.keep (h' := h80) (fun p hp => u80.old _ (OwnV.apart O79 T0 (by decide) p hp))
            try simp only [coreS, Value.cells, Value.oneCell', Nat.reduceAdd, Nat.reduceSub, Nat.reduceMul, Nat.reduceLeDiff, Int.reduceEq, Nat.reduceEqDiff, drawS, treeS, treeB, M30Fs11]
            try simp only [execB_fin, coreS, Value.cells, Value.oneCell', Nat.reduceAdd, Nat.reduceSub, Nat.reduceMul, Nat.reduceLeDiff, Int.reduceEq, Nat.reduceEqDiff, M30Fs11]
            have RF := OF.row
            rw [← wsV_append] at RF
            exact midK_mk (by kernel_rfl) ⟨⟨_, _, _, rfl, TF, RF⟩, XF.ext⟩
          · simp only [List.drop, List.take, splice, coreS, Value.cells, Value.oneCell', Nat.reduceAdd, Nat.reduceSub, Nat.reduceMul, Nat.reduceLeDiff, Int.reduceEq, Nat.reduceEqDiff, drawS, treeS, treeB, M30Fs11]
            refine ⟨RB.of_ext ((Ext.refl _).push _) X77.1, ?_⟩
            have X81 := X77.trans (RB.of_ext (m := h2.size) ((Ext.refl h77).push (.cells #[.int .i64 0, .int .i64 0, .slice none 0 0] 24)) X77.1)
            have T81 : (Array.push h77 (.cells #[.int .i64 0, .int .i64 0, .slice none 0 0] 24))[h77.size]? = some (.cells #[.int .i64 0, .int .i64 0, .slice none 0 0] 24) := by rw [Array.getElem?_push, if_pos (by simp)]
            have Q81 := push_old (o := .cells #[.int .i64 0, .int .i64 0, .slice none 0 0] 24) Q76
            have W81 := push_old (o := .cells #[.int .i64 0, .int .i64 0, .slice none 0 0] 24) W77
            have O81 := O77.ext ((Ext.refl h77).push (.cells #[.int .i64 0, .int .i64 0, .slice none 0 0] 24))
            have gT81 : h2.size ≤ h77.size := by have := X77.1; (try simp only [push_size] at this); omega
            try simp only [List.drop, List.take, splice, coreS, Value.cells, Value.oneCell', Nat.reduceAdd, Nat.reduceSub, Nat.reduceMul, Nat.reduceLeDiff, Int.reduceEq, Nat.reduceEqDiff, drawS, treeS, treeB, M30Fs11]
            refine execB_keep ?_
            simp only [List.drop, List.take, splice, coreS, Value.cells, Value.oneCell', Nat.reduceAdd, Nat.reduceSub, Nat.reduceMul, Nat.reduceLeDiff, Int.reduceEq, Nat.reduceEqDiff, drawS, treeS, treeB, M30Fs11]
            refine apW (us := [w]) rfl rfl O81 X81.1 (row_at (vs := [.int .i64 w.s, .int .i64 w.m]) (cs := wsV [w]) (by rfl) W81) rfl (by omega) fun a82 c82 h82 O82 A82 => ⟨App.rbV A82 O81 (Nat.le_refl _) X81.1, ?_⟩
            have X82 := X81.trans (App.rbV A82 O81 (Nat.le_refl _) X81.1)
            have T82 := (A82.old _ (lt_of_get T81) (OwnV.apart O81 T81 (by decide))).trans T81
            try simp only [List.drop, List.take, splice, coreS, Value.cells, Value.oneCell', Nat.reduceAdd, Nat.reduceSub, Nat.reduceMul, Nat.reduceLeDiff, Int.reduceEq, Nat.reduceEqDiff, drawS, treeS, treeB, M30Fs11]
            refine execB_keep ?_
            have T0 := T82
            try simp only [T0, coreS, Value.cells, Value.oneCell', Nat.reduceAdd, Nat.reduceSub, Nat.reduceMul, Nat.reduceLeDiff, Int.reduceEq, Nat.reduceEqDiff, drawS, treeS, treeB, M30Fs11]
            refine stK_abs T0 (by simp) fun h83 g83 u83 => ?_
            simp only [splice] at g83
            have uu := RB.of_upd (m := h2.size) u83 (by have := gT81; omega)
            refine ⟨uu, ?_⟩
            have XF := X82.trans uu
            have TF := g83
            have OF := O82.keep (h' := h83) (fun p hp => u83.old _ (OwnV.apart O82 T0 (by decide) p hp))
            try simp only [coreS, Value.cells, Value.oneCell', Nat.reduceAdd, Nat.reduceSub, Nat.reduceMul, Nat.reduceLeDiff, Int.reduceEq, Nat.reduceEqDiff, drawS, treeS, treeB, M30Fs11]
            try simp only [execB_fin, coreS, Value.cells, Value.oneCell', Nat.reduceAdd, Nat.reduceSub, Nat.reduceMul, Nat.reduceLeDiff, Int.reduceEq, Nat.reduceEqDiff, M30Fs11]
            have RF := OF.row
            rw [← wsV_append] at RF
            exact midK_mk (by kernel_rfl) ⟨⟨_, _, _, rfl, TF, RF⟩, XF.ext⟩
        · simp only [List.drop, List.take, splice, coreS, Value.cells, Value.oneCell', Nat.reduceAdd, Nat.reduceSub, Nat.reduceMul, Nat.reduceLeDiff, Int.reduceEq, Nat.reduceEqDiff, drawS, treeS, treeB, M30Fs11]
          refine ⟨RB.of_ext ((Ext.refl _).push _) X76.1, ?_⟩
          have X84 := X76.trans (RB.of_ext (m := h2.size) ((Ext.refl (Array.push (Array.push h2 (.cells #[.int .i64 w.s, .int .i64 w.m] 58)) (.cells #[] 58))).push (.cells #[.int .i64 0, .int .i64 0, .slice none 0 0] 24)) X76.1)
          have T84 : (Array.push (Array.push (Array.push h2 (.cells #[.int .i64 w.s, .int .i64 w.m] 58)) (.cells #[] 58)) (.cells #[.int .i64 0, .int .i64 0, .slice none 0 0] 24))[h2.size + 1 + 1]? = some (.cells #[.int .i64 0, .int .i64 0, .slice none 0 0] 24) := by rw [Array.getElem?_push, if_pos (by simp)]
          have Q84 := push_old (o := .cells #[.int .i64 0, .int .i64 0, .slice none 0 0] 24) Q76
          have W84 := push_old (o := .cells #[.int .i64 0, .int .i64 0, .slice none 0 0] 24) W76
          have gT84 : h2.size ≤ h2.size + 1 + 1 := by have := X76.1; (try simp only [push_size] at this); omega
          try simp only [List.drop, List.take, splice, coreS, Value.cells, Value.oneCell', Nat.reduceAdd, Nat.reduceSub, Nat.reduceMul, Nat.reduceLeDiff, Int.reduceEq, Nat.reduceEqDiff, drawS, treeS, treeB, M30Fs11]
          refine execB_keep ?_
          simp only [List.drop, List.take, splice, coreS, Value.cells, Value.oneCell', Nat.reduceAdd, Nat.reduceSub, Nat.reduceMul, Nat.reduceLeDiff, Int.reduceEq, Nat.reduceEqDiff, drawS, treeS, treeB, M30Fs11]
          refine apfW rfl rfl Q84 (hr.ext (y2.trans X84.ext)) hn.symm (by omega) fun a85 c85 h85 P85 x85 => ⟨RB.of_ext x85 X84.1, ?_⟩
          have O85 := P85.mono gQ76
          have X85 := X84.trans (RB.of_ext x85 X84.1)
          have T85 := x85.get T84
          have W85 := x85.get W84
          try simp only [List.drop, List.take, splice, coreS, Value.cells, Value.oneCell', Nat.reduceAdd, Nat.reduceSub, Nat.reduceMul, Nat.reduceLeDiff, Int.reduceEq, Nat.reduceEqDiff, drawS, treeS, treeB, M30Fs11]
          refine execB_keep ?_
          simp only [List.drop, List.take, splice, coreS, Value.cells, Value.oneCell', Nat.reduceAdd, Nat.reduceSub, Nat.reduceMul, Nat.reduceLeDiff, Int.reduceEq, Nat.reduceEqDiff, drawS, treeS, treeB, M30Fs11]
          refine apW (us := [w]) rfl rfl O85 X85.1 (row_at (vs := [.int .i64 w.s, .int .i64 w.m]) (cs := wsV [w]) (by rfl) W85) rfl (by omega) fun a86 c86 h86 O86 A86 => ⟨App.rbV A86 O85 (Nat.le_refl _) X85.1, ?_⟩
          have X86 := X85.trans (App.rbV A86 O85 (Nat.le_refl _) X85.1)
          have T86 := (A86.old _ (lt_of_get T85) (OwnV.apart O85 T85 (by decide))).trans T85
          try simp only [List.drop, List.take, splice, coreS, Value.cells, Value.oneCell', Nat.reduceAdd, Nat.reduceSub, Nat.reduceMul, Nat.reduceLeDiff, Int.reduceEq, Nat.reduceEqDiff, drawS, treeS, treeB, M30Fs11]
          refine execB_keep ?_
          have T0 := T86
          try simp only [T0, coreS, Value.cells, Value.oneCell', Nat.reduceAdd, Nat.reduceSub, Nat.reduceMul, Nat.reduceLeDiff, Int.reduceEq, Nat.reduceEqDiff, drawS, treeS, treeB, M30Fs11]
          refine stK_abs T0 (by simp) fun h87 g87 u87 => ?_
          simp only [splice] at g87
          have uu := RB.of_upd (m := h2.size) u87 (by have := gT84; omega)
          refine ⟨uu, ?_⟩
          have XF := X86.trans uu
          have TF := g87
          have OF := O86.keep (h' := h87) (fun p hp => u87.old _ (OwnV.apart O86 T0 (by decide) p hp))
          try simp only [coreS, Value.cells, Value.oneCell', Nat.reduceAdd, Nat.reduceSub, Nat.reduceMul, Nat.reduceLeDiff, Int.reduceEq, Nat.reduceEqDiff, drawS, treeS, treeB, M30Fs11]
          try simp only [execB_fin, coreS, Value.cells, Value.oneCell', Nat.reduceAdd, Nat.reduceSub, Nat.reduceMul, Nat.reduceLeDiff, Int.reduceEq, Nat.reduceEqDiff, M30Fs11]
          have RF := OF.row
          rw [← wsV_append] at RF
          exact midK_mk (by kernel_rfl) ⟨⟨_, _, _, rfl, TF, RF⟩, XF.ext⟩
      · simp only [List.drop, List.take, splice, coreS, Value.cells, Value.oneCell', Nat.reduceAdd, Nat.reduceSub, Nat.reduceMul, Nat.reduceLeDiff, Int.reduceEq, Nat.reduceEqDiff, drawS, treeS, treeB, M30Fs11]
        refine ⟨RB.of_ext ((Ext.refl _).push _) X75.1, ?_⟩
        have X88 := X75.trans (RB.of_ext (m := h2.size) ((Ext.refl (Array.push h2 (.cells #[.int .i64 w.s, .int .i64 w.m] 58))).push (.cells #[.int .i64 0, .int .i64 0, .slice none 0 0] 24)) X75.1)
        have T88 : (Array.push (Array.push h2 (.cells #[.int .i64 w.s, .int .i64 w.m] 58)) (.cells #[.int .i64 0, .int .i64 0, .slice none 0 0] 24))[h2.size + 1]? = some (.cells #[.int .i64 0, .int .i64 0, .slice none 0 0] 24) := by rw [Array.getElem?_push, if_pos (by simp)]
        have W88 := push_old (o := .cells #[.int .i64 0, .int .i64 0, .slice none 0 0] 24) W75
        have gT88 : h2.size ≤ h2.size + 1 := by have := X75.1; (try simp only [push_size] at this); omega
        try simp only [List.drop, List.take, splice, coreS, Value.cells, Value.oneCell', Nat.reduceAdd, Nat.reduceSub, Nat.reduceMul, Nat.reduceLeDiff, Int.reduceEq, Nat.reduceEqDiff, drawS, treeS, treeB, M30Fs11]
        refine execB_keep ?_
        simp only [List.drop, List.take, splice, coreS, Value.cells, Value.oneCell', Nat.reduceAdd, Nat.reduceSub, Nat.reduceMul, Nat.reduceLeDiff, Int.reduceEq, Nat.reduceEqDiff, drawS, treeS, treeB, M30Fs11]
        refine ⟨by omega, RB.of_ext ((Ext.refl _).push _) X88.1, ?_⟩
        have X89 := X88.trans (RB.of_ext (m := h2.size) ((Ext.refl (Array.push (Array.push h2 (.cells #[.int .i64 w.s, .int .i64 w.m] 58)) (.cells #[.int .i64 0, .int .i64 0, .slice none 0 0] 24))).push (.cells #[] 58)) X88.1)
        have Q89 : (Array.push (Array.push (Array.push h2 (.cells #[.int .i64 w.s, .int .i64 w.m] 58)) (.cells #[.int .i64 0, .int .i64 0, .slice none 0 0] 24)) (.cells #[] 58))[h2.size + 1 + 1]? = some (.cells #[] 58) := by rw [Array.getElem?_push, if_pos (by simp)]
        have T89 := push_old (o := .cells #[] 58) T88
        have W89 := push_old (o := .cells #[] 58) W88
        have gQ89 : h2.size ≤ h2.size + 1 + 1 := by have := X88.1; (try simp only [push_size] at this); omega
        try simp only [List.drop, List.take, splice, coreS, Value.cells, Value.oneCell', Nat.reduceAdd, Nat.reduceSub, Nat.reduceMul, Nat.reduceLeDiff, Int.reduceEq, Nat.reduceEqDiff, drawS, treeS, treeB, M30Fs11]
        refine execB_keep ?_
        simp only [List.drop, List.take, splice, coreS, Value.cells, Value.oneCell', Nat.reduceAdd, Nat.reduceSub, Nat.reduceMul, Nat.reduceLeDiff, Int.reduceEq, Nat.reduceEqDiff, drawS, treeS, treeB, M30Fs11]
        refine apfW rfl rfl Q89 (hr.ext (y2.trans X89.ext)) hn.symm (by omega) fun a90 c90 h90 P90 x90 => ⟨RB.of_ext x90 X89.1, ?_⟩
        have O90 := P90.mono gQ89
        have X90 := X89.trans (RB.of_ext x90 X89.1)
        have T90 := x90.get T89
        have W90 := x90.get W89
        try simp only [List.drop, List.take, splice, coreS, Value.cells, Value.oneCell', Nat.reduceAdd, Nat.reduceSub, Nat.reduceMul, Nat.reduceLeDiff, Int.reduceEq, Nat.reduceEqDiff, drawS, treeS, treeB, M30Fs11]
        refine execB_keep ?_
        simp only [List.drop, List.take, splice, coreS, Value.cells, Value.oneCell', Nat.reduceAdd, Nat.reduceSub, Nat.reduceMul, Nat.reduceLeDiff, Int.reduceEq, Nat.reduceEqDiff, drawS, treeS, treeB, M30Fs11]
        refine apW (us := [w]) rfl rfl O90 X90.1 (row_at (vs := [.int .i64 w.s, .int .i64 w.m]) (cs := wsV [w]) (by rfl) W90) rfl (by omega) fun a91 c91 h91 O91 A91 => ⟨App.rbV A91 O90 (Nat.le_refl _) X90.1, ?_⟩
        have X91 := X90.trans (App.rbV A91 O90 (Nat.le_refl _) X90.1)
        have T91 := (A91.old _ (lt_of_get T90) (OwnV.apart O90 T90 (by decide))).trans T90
        try simp only [List.drop, List.take, splice, coreS, Value.cells, Value.oneCell', Nat.reduceAdd, Nat.reduceSub, Nat.reduceMul, Nat.reduceLeDiff, Int.reduceEq, Nat.reduceEqDiff, drawS, treeS, treeB, M30Fs11]
        refine execB_keep ?_
        have T0 := T91
        try simp only [T0, coreS, Value.cells, Value.oneCell', Nat.reduceAdd, Nat.reduceSub, Nat.reduceMul, Nat.reduceLeDiff, Int.reduceEq, Nat.reduceEqDiff, drawS, treeS, treeB, M30Fs11]
        refine stK_abs T0 (by simp) fun h92 g92 u92 => ?_
        simp only [splice] at g92
        have uu := RB.of_upd (m := h2.size) u92 (by have := gT88; omega)
        refine ⟨uu, ?_⟩
        have XF := X91.trans uu
        have TF := g92
        have OF := O91.keep (h' := h92) (fun p hp => u92.old _ (OwnV.apart O91 T0 (by decide) p hp))
        try simp only [coreS, Value.cells, Value.oneCell', Nat.reduceAdd, Nat.reduceSub, Nat.reduceMul, Nat.reduceLeDiff, Int.reduceEq, Nat.reduceEqDiff, drawS, treeS, treeB, M30Fs11]
        try simp only [execB_fin, coreS, Value.cells, Value.oneCell', Nat.reduceAdd, Nat.reduceSub, Nat.reduceMul, Nat.reduceLeDiff, Int.reduceEq, Nat.reduceEqDiff, M30Fs11]
        have RF := OF.row
        rw [← wsV_append] at RF
        exact midK_mk (by kernel_rfl) ⟨⟨_, _, _, rfl, TF, RF⟩, XF.ext⟩
    · simp only [List.drop, List.take, splice, coreS, Value.cells, Value.oneCell', Nat.reduceAdd, Nat.reduceSub, Nat.reduceMul, Nat.reduceLeDiff, Int.reduceEq, Nat.reduceEqDiff, drawS, treeS, treeB, M30Fs11]
      refine ⟨RB.of_ext ((Ext.refl _).push _) (RB.refl h2.size h2).1, ?_⟩
      have X93 := (RB.refl h2.size h2).trans (RB.of_ext (m := h2.size) ((Ext.refl h2).push (.cells #[.int .i64 0, .int .i64 0, .slice none 0 0] 24)) (RB.refl h2.size h2).1)
      have T93 : (Array.push h2 (.cells #[.int .i64 0, .int .i64 0, .slice none 0 0] 24))[h2.size]? = some (.cells #[.int .i64 0, .int .i64 0, .slice none 0 0] 24) := by rw [Array.getElem?_push, if_pos (by simp)]
      have gT93 : h2.size ≤ h2.size := by have := (RB.refl h2.size h2).1; (try simp only [push_size] at this); omega
      try simp only [List.drop, List.take, splice, coreS, Value.cells, Value.oneCell', Nat.reduceAdd, Nat.reduceSub, Nat.reduceMul, Nat.reduceLeDiff, Int.reduceEq, Nat.reduceEqDiff, drawS, treeS, treeB, M30Fs11]
      refine execB_fork ?_ ?_
      · simp only [List.drop, List.take, splice, coreS, Value.cells, Value.oneCell', Nat.reduceAdd, Nat.reduceSub, Nat.reduceMul, Nat.reduceLeDiff, Int.reduceEq, Nat.reduceEqDiff, drawS, treeS, treeB, M30Fs11]
        refine ⟨by omega, RB.of_ext ((Ext.refl _).push _) X93.1, ?_⟩
        have X94 := X93.trans (RB.of_ext (m := h2.size) ((Ext.refl (Array.push h2 (.cells #[.int .i64 0, .int .i64 0, .slice none 0 0] 24))).push (.cells #[] 58)) X93.1)
        have Q94 : (Array.push (Array.push h2 (.cells #[.int .i64 0, .int .i64 0, .slice none 0 0] 24)) (.cells #[] 58))[h2.size + 1]? = some (.cells #[] 58) := by rw [Array.getElem?_push, if_pos (by simp)]
        have T94 := push_old (o := .cells #[] 58) T93
        have gQ94 : h2.size ≤ h2.size + 1 := by have := X93.1; (try simp only [push_size] at this); omega
        try simp only [List.drop, List.take, splice, coreS, Value.cells, Value.oneCell', Nat.reduceAdd, Nat.reduceSub, Nat.reduceMul, Nat.reduceLeDiff, Int.reduceEq, Nat.reduceEqDiff, drawS, treeS, treeB, M30Fs11]
        refine execB_fork ?_ ?_
        · simp only [List.drop, List.take, splice, coreS, Value.cells, Value.oneCell', Nat.reduceAdd, Nat.reduceSub, Nat.reduceMul, Nat.reduceLeDiff, Int.reduceEq, Nat.reduceEqDiff, drawS, treeS, treeB, M30Fs11]
          refine apfW rfl rfl Q94 (hr.ext (y2.trans X94.ext)) hn.symm (by omega) fun a95 c95 h95 P95 x95 => ⟨RB.of_ext x95 X94.1, ?_⟩
          have O95 := P95.mono gQ94
          have X95 := X94.trans (RB.of_ext x95 X94.1)
          have T95 := x95.get T94
          try simp only [List.drop, List.take, splice, coreS, Value.cells, Value.oneCell', Nat.reduceAdd, Nat.reduceSub, Nat.reduceMul, Nat.reduceLeDiff, Int.reduceEq, Nat.reduceEqDiff, drawS, treeS, treeB, M30Fs11]
          refine execB_keep ?_
          simp only [List.drop, List.take, splice, coreS, Value.cells, Value.oneCell', Nat.reduceAdd, Nat.reduceSub, Nat.reduceMul, Nat.reduceLeDiff, Int.reduceEq, Nat.reduceEqDiff, drawS, treeS, treeB, M30Fs11]
          refine ⟨by omega, RB.of_ext ((Ext.refl _).push _) X95.1, ?_⟩
          have X96 := X95.trans (RB.of_ext (m := h2.size) ((Ext.refl h95).push (.cells #[.int .i64 w.s, .int .i64 w.m] 58)) X95.1)
          have W96 : (Array.push h95 (.cells #[.int .i64 w.s, .int .i64 w.m] 58))[h95.size]? = some (.cells #[.int .i64 w.s, .int .i64 w.m] 58) := by rw [Array.getElem?_push, if_pos (by simp)]
          have T96 := push_old (o := .cells #[.int .i64 w.s, .int .i64 w.m] 58) T95
          have Q96 := push_old (o := .cells #[.int .i64 w.s, .int .i64 w.m] 58) Q94
          have O96 := O95.ext ((Ext.refl h95).push (.cells #[.int .i64 w.s, .int .i64 w.m] 58))
          have gW96 : h2.size ≤ h95.size := by have := X95.1; (try simp only [push_size] at this); omega
          try simp only [List.drop, List.take, splice, coreS, Value.cells, Value.oneCell', Nat.reduceAdd, Nat.reduceSub, Nat.reduceMul, Nat.reduceLeDiff, Int.reduceEq, Nat.reduceEqDiff, drawS, treeS, treeB, M30Fs11]
          refine execB_keep ?_
          simp only [List.drop, List.take, splice, coreS, Value.cells, Value.oneCell', Nat.reduceAdd, Nat.reduceSub, Nat.reduceMul, Nat.reduceLeDiff, Int.reduceEq, Nat.reduceEqDiff, drawS, treeS, treeB, M30Fs11]
          refine apW (us := [w]) rfl rfl O96 X96.1 (row_at (vs := [.int .i64 w.s, .int .i64 w.m]) (cs := wsV [w]) (by rfl) W96) rfl (by omega) fun a97 c97 h97 O97 A97 => ⟨App.rbV A97 O96 (Nat.le_refl _) X96.1, ?_⟩
          have X97 := X96.trans (App.rbV A97 O96 (Nat.le_refl _) X96.1)
          have T97 := (A97.old _ (lt_of_get T96) (OwnV.apart O96 T96 (by decide))).trans T96
          try simp only [List.drop, List.take, splice, coreS, Value.cells, Value.oneCell', Nat.reduceAdd, Nat.reduceSub, Nat.reduceMul, Nat.reduceLeDiff, Int.reduceEq, Nat.reduceEqDiff, drawS, treeS, treeB, M30Fs11]
          refine execB_keep ?_
          have T0 := T97
          try simp only [T0, coreS, Value.cells, Value.oneCell', Nat.reduceAdd, Nat.reduceSub, Nat.reduceMul, Nat.reduceLeDiff, Int.reduceEq, Nat.reduceEqDiff, drawS, treeS, treeB, M30Fs11]
          refine stK_abs T0 (by simp) fun h98 g98 u98 => ?_
          simp only [splice] at g98
          have uu := RB.of_upd (m := h2.size) u98 (by have := gT93; omega)
          refine ⟨uu, ?_⟩
          have XF := X97.trans uu
          have TF := g98
          have OF := O97.keep (h' := h98) (fun p hp => u98.old _ (OwnV.apart O97 T0 (by decide) p hp))
          try simp only [coreS, Value.cells, Value.oneCell', Nat.reduceAdd, Nat.reduceSub, Nat.reduceMul, Nat.reduceLeDiff, Int.reduceEq, Nat.reduceEqDiff, drawS, treeS, treeB, M30Fs11]
          try simp only [execB_fin, coreS, Value.cells, Value.oneCell', Nat.reduceAdd, Nat.reduceSub, Nat.reduceMul, Nat.reduceLeDiff, Int.reduceEq, Nat.reduceEqDiff, M30Fs11]
          have RF := OF.row
          rw [← wsV_append] at RF
          exact midK_mk (by kernel_rfl) ⟨⟨_, _, _, rfl, TF, RF⟩, XF.ext⟩
        · simp only [List.drop, List.take, splice, coreS, Value.cells, Value.oneCell', Nat.reduceAdd, Nat.reduceSub, Nat.reduceMul, Nat.reduceLeDiff, Int.reduceEq, Nat.reduceEqDiff, drawS, treeS, treeB, M30Fs11]
          refine ⟨by omega, RB.of_ext ((Ext.refl _).push _) X94.1, ?_⟩
          have X99 := X94.trans (RB.of_ext (m := h2.size) ((Ext.refl (Array.push (Array.push h2 (.cells #[.int .i64 0, .int .i64 0, .slice none 0 0] 24)) (.cells #[] 58))).push (.cells #[.int .i64 w.s, .int .i64 w.m] 58)) X94.1)
          have W99 : (Array.push (Array.push (Array.push h2 (.cells #[.int .i64 0, .int .i64 0, .slice none 0 0] 24)) (.cells #[] 58)) (.cells #[.int .i64 w.s, .int .i64 w.m] 58))[h2.size + 1 + 1]? = some (.cells #[.int .i64 w.s, .int .i64 w.m] 58) := by rw [Array.getElem?_push, if_pos (by simp)]
          have T99 := push_old (o := .cells #[.int .i64 w.s, .int .i64 w.m] 58) T94
          have Q99 := push_old (o := .cells #[.int .i64 w.s, .int .i64 w.m] 58) Q94
          have gW99 : h2.size ≤ h2.size + 1 + 1 := by have := X94.1; (try simp only [push_size] at this); omega
          try simp only [List.drop, List.take, splice, coreS, Value.cells, Value.oneCell', Nat.reduceAdd, Nat.reduceSub, Nat.reduceMul, Nat.reduceLeDiff, Int.reduceEq, Nat.reduceEqDiff, drawS, treeS, treeB, M30Fs11]
          refine execB_keep ?_
          simp only [List.drop, List.take, splice, coreS, Value.cells, Value.oneCell', Nat.reduceAdd, Nat.reduceSub, Nat.reduceMul, Nat.reduceLeDiff, Int.reduceEq, Nat.reduceEqDiff, drawS, treeS, treeB, M30Fs11]
          refine apfW rfl rfl Q99 (hr.ext (y2.trans X99.ext)) hn.symm (by omega) fun a100 c100 h100 P100 x100 => ⟨RB.of_ext x100 X99.1, ?_⟩
          have O100 := P100.mono gQ94
          have X100 := X99.trans (RB.of_ext x100 X99.1)
          have T100 := x100.get T99
          have W100 := x100.get W99
          try simp only [List.drop, List.take, splice, coreS, Value.cells, Value.oneCell', Nat.reduceAdd, Nat.reduceSub, Nat.reduceMul, Nat.reduceLeDiff, Int.reduceEq, Nat.reduceEqDiff, drawS, treeS, treeB, M30Fs11]
          refine execB_keep ?_
          simp only [List.drop, List.take, splice, coreS, Value.cells, Value.oneCell', Nat.reduceAdd, Nat.reduceSub, Nat.reduceMul, Nat.reduceLeDiff, Int.reduceEq, Nat.reduceEqDiff, drawS, treeS, treeB, M30Fs11]
          refine apW (us := [w]) rfl rfl O100 X100.1 (row_at (vs := [.int .i64 w.s, .int .i64 w.m]) (cs := wsV [w]) (by rfl) W100) rfl (by omega) fun a101 c101 h101 O101 A101 => ⟨App.rbV A101 O100 (Nat.le_refl _) X100.1, ?_⟩
          have X101 := X100.trans (App.rbV A101 O100 (Nat.le_refl _) X100.1)
          have T101 := (A101.old _ (lt_of_get T100) (OwnV.apart O100 T100 (by decide))).trans T100
          try simp only [List.drop, List.take, splice, coreS, Value.cells, Value.oneCell', Nat.reduceAdd, Nat.reduceSub, Nat.reduceMul, Nat.reduceLeDiff, Int.reduceEq, Nat.reduceEqDiff, drawS, treeS, treeB, M30Fs11]
          refine execB_keep ?_
          have T0 := T101
          try simp only [T0, coreS, Value.cells, Value.oneCell', Nat.reduceAdd, Nat.reduceSub, Nat.reduceMul, Nat.reduceLeDiff, Int.reduceEq, Nat.reduceEqDiff, drawS, treeS, treeB, M30Fs11]
          refine stK_abs T0 (by simp) fun h102 g102 u102 => ?_
          simp only [splice] at g102
          have uu := RB.of_upd (m := h2.size) u102 (by have := gT93; omega)
          refine ⟨uu, ?_⟩
          have XF := X101.trans uu
          have TF := g102
          have OF := O101.keep (h' := h102) (fun p hp => u102.old _ (OwnV.apart O101 T0 (by decide) p hp))
          try simp only [coreS, Value.cells, Value.oneCell', Nat.reduceAdd, Nat.reduceSub, Nat.reduceMul, Nat.reduceLeDiff, Int.reduceEq, Nat.reduceEqDiff, drawS, treeS, treeB, M30Fs11]
          try simp only [execB_fin, coreS, Value.cells, Value.oneCell', Nat.reduceAdd, Nat.reduceSub, Nat.reduceMul, Nat.reduceLeDiff, Int.reduceEq, Nat.reduceEqDiff, M30Fs11]
          have RF := OF.row
          rw [← wsV_append] at RF
          exact midK_mk (by kernel_rfl) ⟨⟨_, _, _, rfl, TF, RF⟩, XF.ext⟩
      · simp only [List.drop, List.take, splice, coreS, Value.cells, Value.oneCell', Nat.reduceAdd, Nat.reduceSub, Nat.reduceMul, Nat.reduceLeDiff, Int.reduceEq, Nat.reduceEqDiff, drawS, treeS, treeB, M30Fs11]
        refine ⟨by omega, RB.of_ext ((Ext.refl _).push _) X93.1, ?_⟩
        have X103 := X93.trans (RB.of_ext (m := h2.size) ((Ext.refl (Array.push h2 (.cells #[.int .i64 0, .int .i64 0, .slice none 0 0] 24))).push (.cells #[.int .i64 w.s, .int .i64 w.m] 58)) X93.1)
        have W103 : (Array.push (Array.push h2 (.cells #[.int .i64 0, .int .i64 0, .slice none 0 0] 24)) (.cells #[.int .i64 w.s, .int .i64 w.m] 58))[h2.size + 1]? = some (.cells #[.int .i64 w.s, .int .i64 w.m] 58) := by rw [Array.getElem?_push, if_pos (by simp)]
        have T103 := push_old (o := .cells #[.int .i64 w.s, .int .i64 w.m] 58) T93
        have gW103 : h2.size ≤ h2.size + 1 := by have := X93.1; (try simp only [push_size] at this); omega
        try simp only [List.drop, List.take, splice, coreS, Value.cells, Value.oneCell', Nat.reduceAdd, Nat.reduceSub, Nat.reduceMul, Nat.reduceLeDiff, Int.reduceEq, Nat.reduceEqDiff, drawS, treeS, treeB, M30Fs11]
        refine execB_keep ?_
        simp only [List.drop, List.take, splice, coreS, Value.cells, Value.oneCell', Nat.reduceAdd, Nat.reduceSub, Nat.reduceMul, Nat.reduceLeDiff, Int.reduceEq, Nat.reduceEqDiff, drawS, treeS, treeB, M30Fs11]
        refine ⟨by omega, RB.of_ext ((Ext.refl _).push _) X103.1, ?_⟩
        have X104 := X103.trans (RB.of_ext (m := h2.size) ((Ext.refl (Array.push (Array.push h2 (.cells #[.int .i64 0, .int .i64 0, .slice none 0 0] 24)) (.cells #[.int .i64 w.s, .int .i64 w.m] 58))).push (.cells #[] 58)) X103.1)
        have Q104 : (Array.push (Array.push (Array.push h2 (.cells #[.int .i64 0, .int .i64 0, .slice none 0 0] 24)) (.cells #[.int .i64 w.s, .int .i64 w.m] 58)) (.cells #[] 58))[h2.size + 1 + 1]? = some (.cells #[] 58) := by rw [Array.getElem?_push, if_pos (by simp)]
        have T104 := push_old (o := .cells #[] 58) T103
        have W104 := push_old (o := .cells #[] 58) W103
        have gQ104 : h2.size ≤ h2.size + 1 + 1 := by have := X103.1; (try simp only [push_size] at this); omega
        try simp only [List.drop, List.take, splice, coreS, Value.cells, Value.oneCell', Nat.reduceAdd, Nat.reduceSub, Nat.reduceMul, Nat.reduceLeDiff, Int.reduceEq, Nat.reduceEqDiff, drawS, treeS, treeB, M30Fs11]
        refine execB_keep ?_
        simp only [List.drop, List.take, splice, coreS, Value.cells, Value.oneCell', Nat.reduceAdd, Nat.reduceSub, Nat.reduceMul, Nat.reduceLeDiff, Int.reduceEq, Nat.reduceEqDiff, drawS, treeS, treeB, M30Fs11]
        refine apfW rfl rfl Q104 (hr.ext (y2.trans X104.ext)) hn.symm (by omega) fun a105 c105 h105 P105 x105 => ⟨RB.of_ext x105 X104.1, ?_⟩
        have O105 := P105.mono gQ104
        have X105 := X104.trans (RB.of_ext x105 X104.1)
        have T105 := x105.get T104
        have W105 := x105.get W104
        try simp only [List.drop, List.take, splice, coreS, Value.cells, Value.oneCell', Nat.reduceAdd, Nat.reduceSub, Nat.reduceMul, Nat.reduceLeDiff, Int.reduceEq, Nat.reduceEqDiff, drawS, treeS, treeB, M30Fs11]
        refine execB_keep ?_
        simp only [List.drop, List.take, splice, coreS, Value.cells, Value.oneCell', Nat.reduceAdd, Nat.reduceSub, Nat.reduceMul, Nat.reduceLeDiff, Int.reduceEq, Nat.reduceEqDiff, drawS, treeS, treeB, M30Fs11]
        refine apW (us := [w]) rfl rfl O105 X105.1 (row_at (vs := [.int .i64 w.s, .int .i64 w.m]) (cs := wsV [w]) (by rfl) W105) rfl (by omega) fun a106 c106 h106 O106 A106 => ⟨App.rbV A106 O105 (Nat.le_refl _) X105.1, ?_⟩
        have X106 := X105.trans (App.rbV A106 O105 (Nat.le_refl _) X105.1)
        have T106 := (A106.old _ (lt_of_get T105) (OwnV.apart O105 T105 (by decide))).trans T105
        try simp only [List.drop, List.take, splice, coreS, Value.cells, Value.oneCell', Nat.reduceAdd, Nat.reduceSub, Nat.reduceMul, Nat.reduceLeDiff, Int.reduceEq, Nat.reduceEqDiff, drawS, treeS, treeB, M30Fs11]
        refine execB_keep ?_
        have T0 := T106
        try simp only [T0, coreS, Value.cells, Value.oneCell', Nat.reduceAdd, Nat.reduceSub, Nat.reduceMul, Nat.reduceLeDiff, Int.reduceEq, Nat.reduceEqDiff, drawS, treeS, treeB, M30Fs11]
        refine stK_abs T0 (by simp) fun h107 g107 u107 => ?_
        simp only [splice] at g107
        have uu := RB.of_upd (m := h2.size) u107 (by have := gT93; omega)
        refine ⟨uu, ?_⟩
        have XF := X106.trans uu
        have TF := g107
        have OF := O106.keep (h' := h107) (fun p hp => u107.old _ (OwnV.apart O106 T0 (by decide) p hp))
        try simp only [coreS, Value.cells, Value.oneCell', Nat.reduceAdd, Nat.reduceSub, Nat.reduceMul, Nat.reduceLeDiff, Int.reduceEq, Nat.reduceEqDiff, drawS, treeS, treeB, M30Fs11]
        try simp only [execB_fin, coreS, Value.cells, Value.oneCell', Nat.reduceAdd, Nat.reduceSub, Nat.reduceMul, Nat.reduceLeDiff, Int.reduceEq, Nat.reduceEqDiff, M30Fs11]
        have RF := OF.row
        rw [← wsV_append] at RF
        exact midK_mk (by kernel_rfl) ⟨⟨_, _, _, rfl, TF, RF⟩, XF.ext⟩
  rintro f4 h3 ⟨⟨b8, a', c', f8, b8c, hr'⟩, x3⟩
  have y3 := y2.trans x3
  have hb3 := x3.get hb2
  have hn' : n + 1 = (ws ++ [w]).length := by simp; omega
  have V' : Vb s m (ws ++ [w]) := ⟨v1, v2, v3, v4, by rw [← hn']; omega, fun u hu => by
    rcases List.mem_append.1 hu with hu | hu
    · exact V.ok u hu
    · rw [List.mem_singleton.1 hu, hw]; exact ⟨⟨by simp only; omega, by simp only; omega⟩, by simp only; omega, by simp only; omega⟩⟩
  obtain ⟨m1, m2, m3, m4⟩ := more_law V V'
  have hl1 := lsN_le V
  have hl2 := lsN_le V'
  rw [← hn'] at hl2
  simp only [hb3, f8, coreS, Value.cells, Value.oneCell', Nat.reduceAdd, Nat.reduceSub, Nat.reduceMul, Nat.reduceLeDiff, Int.reduceEq, Nat.reduceEqDiff, M30Fs11]
  refine CallsH.mono (few37 s m a n c ws h3 (hr.ext y3) hn V) ?_
  rintro v h4 ⟨⟨q4, rfl, _, _⟩, x4⟩
  simp only [x4.get b8c, coreS, Value.cells, Value.oneCell', Nat.reduceAdd, Nat.reduceSub, Nat.reduceMul, Nat.reduceLeDiff, Int.reduceEq, Nat.reduceEqDiff, M30Fs11]
  refine CallsH.mono (few37 s m a' (n + 1) c' _ h4 (hr'.ext x4) hn' V') ?_
  rintro v h5 ⟨⟨q5, rfl, _, _⟩, x5⟩
  have x35 := x4.trans x5
  simp only [x35.get hb3, coreS, Value.cells, Value.oneCell', Nat.reduceAdd, Nat.reduceSub, Nat.reduceMul, Nat.reduceLeDiff, Int.reduceEq, Nat.reduceEqDiff, M30Fs11]
  refine CallsH.mono (best41 s m a n c ws h5 (hr.ext (y3.trans x35)) hn V) ?_
  rintro v h6 ⟨⟨a6, c6, rfl, _⟩, x6⟩
  have x36 := x35.trans x6
  simp only [x36.get b8c, coreS, Value.cells, Value.oneCell', Nat.reduceAdd, Nat.reduceSub, Nat.reduceMul, Nat.reduceLeDiff, Int.reduceEq, Nat.reduceEqDiff, M30Fs11]
  refine CallsH.mono (best41 s m a' (n + 1) c' _ h6 (hr'.ext x36) hn' V') ?_
  rintro v h7 ⟨⟨a7, c7, rfl, _⟩, x7⟩
  have g1 : ((gld ws : Nat) : Int) ≤ (gld (ws ++ [w]) : Nat) := by omega
  have g2 : ((gld (ws ++ [w]) : Nat) : Int) ≤ ((gld ws : Nat) : Int) + 1 := by omega
  have g3 : (((lsN s m ws).length : Nat) : Int) ≤ ((lsN s m (ws ++ [w])).length : Nat) := by omega
  have g4 : (((lsN s m (ws ++ [w])).length : Nat) : Int) ≤ (((lsN s m ws).length : Nat) : Int) + 1 := by omega
  have gg := gld_le V
  simp only [g1, g2, g3, g4, decide_true, coreS, Value.cells, Value.oneCell', Nat.reduceAdd, Nat.reduceSub, Nat.reduceMul, Nat.reduceLeDiff, Int.reduceEq, Nat.reduceEqDiff, M30Fs11]
  refine ⟨by rw [inK_i64]; omega, by rw [inK_i64]; omega, ?_⟩
  refine CallsH.mono (out _ (y3.trans (x36.trans x7))) ?_
  rintro v h8 ⟨rfl, x8⟩
  simp only [coreS, Value.cells, Value.oneCell', Nat.reduceAdd, Nat.reduceSub, Nat.reduceMul, Nat.reduceLeDiff, Int.reduceEq, Nat.reduceEqDiff, M30Fs11]
  exact x8
end Go.Proofs.Ytmgkeeefbfefgaa
