/- Walks: Post, of the program. -/
import Derived.Test.YtepaekbjoombpaaGreatDoorC1
import Derived.Test.YtepaekbjoombpaaGreatDoorA6
import Derived.Test.YtepaekbjoombpaaGreatDoorBL
namespace Go.Proofs.YtepaekbjoombpaaGreatDoor
open Go Go.Proofs Go.Eng Go.Run Tab
set_option maxRecDepth 100000
set_option linter.unusedSimpArgs false
set_option linter.unusedVariables false
set_option maxHeartbeats 2000000
set_option linter.defProp false
def C2Fs19 := (And.intro (And.intro (And.intro (And.intro @agg22 @agg24) (And.intro @agg26 (And.intro @agg3 @by26))) (And.intro (And.intro @fo24_0 (And.intro @fo24_1 @fo24_2)) (And.intro @fo26_0 (And.intro @fo26_1 @fo26_2)))) (And.intro (And.intro (And.intro @inf22 (And.intro @inf24 @inf26)) (And.intro @inf3 (And.intro @okf24 @sz22))) (And.intro (And.intro @sz24 (And.intro @sz26 @sz3)) (And.intro @zero24 (And.intro @zero26 @Tryz.underlying22)))))
def C2Fs67 := (And.intro (And.intro @agg3 @fo26_0) (And.intro @inf3 @sz3))
noncomputable instance (acc : Int) (e : En) : Decidable (okE acc e) := Classical.propDecidable _
/-- The error of an entry that is posted. -/
noncomputable def pst (acc cl : Int) (es : List En) (e : En) : Int :=
  if chk acc cl es ≠ 0 then chk acc cl es else if ¬ okE acc e then 3 else if e.f = e.t then 16 else if e.d ≤ cl then 25 else if es.length = 20 then 6 else 0
/-- Where it goes. -/
def insK (es : List En) (e : En) : Nat := es.findIdx fun x => decide (e.d < x.d)
def ins (es : List En) (e : En) : List En := es.take (insK es e) ++ e :: es.drop (insK es e)
theorem insK_le (es : List En) (e : En) : insK es e ≤ es.length := List.findIdx_le_length
theorem ins_length (es : List En) (e : En) : (ins es e).length = es.length + 1 := by
  have := insK_le es e
  simp only [ins, List.length_append, List.length_take, List.length_cons, List.length_drop]; omega
/-- The book that is returned. -/
noncomputable def pstA (acc cl : Int) (es : List En) (e : En) : Int := if pst acc cl es e = 0 then acc else 0
noncomputable def pstC (acc cl : Int) (es : List En) (e : En) : Int := if pst acc cl es e = 0 then cl else 0
noncomputable def pstL (acc cl : Int) (es : List En) (e : En) : List En := if pst acc cl es e = 0 then ins es e else []
theorem closure67 (x e : En) (b : Nat) (h : Eng.Heap) (hb : h[b]? = some (.cells #[.int .i64 e.d, .int .i64 e.f, .int .i64 e.t, .int .i64 e.a] 26)) :
    CallsH Tryz.prog 67 (#[] ++ #[.agg #[.int .i64 x.d, .int .i64 x.f, .int .i64 x.t, .int .i64 x.a]] ++ #[.pointer (some ⟨b, 0, none⟩)]) h (fun v h' => v = .bool (decide (e.d < x.d)) ∧ Ext h h') := by
  simp only [Array.append_empty, Array.empty_append, List.append_toArray, List.cons_append, List.nil_append]
  refine CallsH_of_exec Tryz.func67 rfl bod67 ?_
  simp only [Tryz.ntmps67, Tryz.results67, coreS, stK_some, splice, Value.cells, Value.oneCell', Nat.reduceAdd, Nat.reduceSub, Nat.reduceMul, Nat.reduceLeDiff, Int.reduceEq, Nat.reduceEqDiff, C2Fs67]
  have hne : ¬ (b = h.size) := by have := lt_of_get hb; omega
  simp only [hne, hb, if_false, coreS, Value.cells, Value.oneCell', Nat.reduceAdd, Nat.reduceSub, Nat.reduceMul, Nat.reduceLeDiff, Int.reduceEq, Nat.reduceEqDiff, C2Fs67]
  exact (Ext.refl h).push _
theorem post19 (acc cl : Int) (a : Option Addr) (n c : Nat) (es : List En) (e : En) (h : Eng.Heap) (hr : Row h a (ensV es)) (hn : n = es.length) (hl : n ≤ 1000000) :
    CallsH Tryz.prog 19 #[.agg #[.int .i64 acc, .int .i64 cl, .slice a n c], .agg #[.int .i64 e.d, .int .i64 e.f, .int .i64 e.t, .int .i64 e.a]] h (fun v h' =>
      (∃ a' n' c', v = .tuple #[.agg #[.int .i64 (pstA acc cl es e), .int .i64 (pstC acc cl es e), .slice a' n' c'], .int .i64 (pst acc cl es e)] ∧ Row h' a' (ensV (pstL acc cl es e)) ∧ n' = (pstL acc cl es e).length ∧ ∀ p, a' = some p → h.size ≤ p.block) ∧ Ext h h') := by
  refine CallsH_of_exec Tryz.func19 rfl bod19 ?_
  simp only [Tryz.ntmps19, Tryz.results19, coreS, stK_some, splice, Value.cells, Value.oneCell', Nat.reduceAdd, Nat.reduceSub, Nat.reduceMul, Nat.reduceLeDiff, Int.reduceEq, Nat.reduceEqDiff, C2Fs19]
  simp only [show ¬ (h.size = h.size + 1 + 1) by omega, if_false, coreS, Value.cells, Value.oneCell', Nat.reduceAdd, Nat.reduceSub, Nat.reduceMul, Nat.reduceLeDiff, Int.reduceEq, Nat.reduceEqDiff, C2Fs19]
  refine CallsH.mono (check25 acc cl a n c es _ (((hr.push _).push _).push _) hn hl) ?_
  rintro v h1 ⟨rfl, x1⟩
  have hb0 := x1.get (push_old (push_old (push_new (h := h))))
  have hb1 := x1.get (push_old pn1)
  have hb2 : h1[h.size + 2]? = some (.cells #[.int .i64 0, .int .i64 0, .slice none 0 0] 24) := x1.get (by rw [Array.getElem?_push, if_pos (by simp)])
  have y1 := x1.of_push.of_push.of_push
  have bad : ∀ {p : Int} {h2 : Eng.Heap}, pst acc cl es e = p → p ≠ 0 → Ext h h2 → (∃ a' n' c', Value.tuple #[.agg #[.int .i64 0, .int .i64 0, .slice none 0 0], .int .i64 p] = .tuple #[.agg #[.int .i64 (pstA acc cl es e), .int .i64 (pstC acc cl es e), .slice a' n' c'], .int .i64 (pst acc cl es e)] ∧ Row h2 a' (ensV (pstL acc cl es e)) ∧ n' = (pstL acc cl es e).length ∧ ∀ p, a' = some p → h.size ≤ p.block) ∧ Ext h h2 := by
    rintro p h2 rfl hp x
    exact ⟨⟨none, 0, 0, by rw [pstA, pstC, if_neg hp, if_neg hp], by rw [pstL, if_neg hp]; exact .inl rfl, by rw [pstL, if_neg hp]; rfl, fun p hp => (by cases hp)⟩, x⟩
  by_cases hc : chk acc cl es = 0
  · obtain ⟨ha, hl2, hcl, hok, hso, hft⟩ := chk_ok hc
    simp only [hc, hb0, hb1, coreS, Value.cells, Value.oneCell', Nat.reduceAdd, Nat.reduceSub, Nat.reduceMul, Nat.reduceLeDiff, Int.reduceEq, Nat.reduceEqDiff, C2Fs19]
    refine CallsH.mono (stray65 acc e _ (by omega)) ?_
    rintro v h2 ⟨rfl, x2⟩
    have c0 := x2.get hb0
    have c1 := x2.get hb1
    have c2 := x2.get hb2
    have y2 := y1.trans x2
    by_cases hoe : okE acc e
    · by_cases hee : e.f = e.t
      · have hp : pst acc cl es e = 16 := by unfold pst; rw [if_neg (by simpa using hc), if_neg (by simpa using hoe), if_pos hee]
        simp only [hoe, hee, c0, c1, c2, decide_true, Bool.not_true, coreS, Value.cells, Value.oneCell', Nat.reduceAdd, Nat.reduceSub, Nat.reduceMul, Nat.reduceLeDiff, Int.reduceEq, Nat.reduceEqDiff, C2Fs19]
        refine stK_abs c2 (by simp) fun h9 g9 u9 => ?_
        simp only [splice] at g9
        simp only [g9, splice, coreS, Value.cells, Value.oneCell', Nat.reduceAdd, Nat.reduceSub, Nat.reduceMul, Nat.reduceLeDiff, Int.reduceEq, Nat.reduceEqDiff, C2Fs19]
        exact bad (hp) (by omega) (u9.ext y2 (by omega))
      by_cases hdc : e.d ≤ cl
      · have hp : pst acc cl es e = 25 := by unfold pst; rw [if_neg (by simpa using hc), if_neg (by simpa using hoe), if_neg hee, if_pos hdc]
        simp only [hoe, hee, hdc, c0, c1, c2, decide_true, decide_false, Bool.not_true, coreS, Value.cells, Value.oneCell', Nat.reduceAdd, Nat.reduceSub, Nat.reduceMul, Nat.reduceLeDiff, Int.reduceEq, Nat.reduceEqDiff, C2Fs19]
        refine stK_abs c2 (by simp) fun h9 g9 u9 => ?_
        simp only [splice] at g9
        simp only [g9, splice, coreS, Value.cells, Value.oneCell', Nat.reduceAdd, Nat.reduceSub, Nat.reduceMul, Nat.reduceLeDiff, Int.reduceEq, Nat.reduceEqDiff, C2Fs19]
        exact bad (hp) (by omega) (u9.ext y2 (by omega))
      by_cases h20 : (n : Int) = 20
      · have hp : pst acc cl es e = 6 := by unfold pst; rw [if_neg (by simpa using hc), if_neg (by simpa using hoe), if_neg hee, if_neg hdc, if_pos (by omega)]
        simp only [hoe, hee, hdc, h20, c0, c1, c2, decide_true, decide_false, Bool.not_true, coreS, Value.cells, Value.oneCell', Nat.reduceAdd, Nat.reduceSub, Nat.reduceMul, Nat.reduceLeDiff, Int.reduceEq, Nat.reduceEqDiff, C2Fs19]
        refine stK_abs c2 (by simp) fun h9 g9 u9 => ?_
        simp only [splice] at g9
        simp only [g9, splice, coreS, Value.cells, Value.oneCell', Nat.reduceAdd, Nat.reduceSub, Nat.reduceMul, Nat.reduceLeDiff, Int.reduceEq, Nat.reduceEqDiff, C2Fs19]
        exact bad (hp) (by omega) (u9.ext y2 (by omega))
      have hp : pst acc cl es e = 0 := by unfold pst; rw [if_neg (by simpa using hc), if_neg (by simpa using hoe), if_neg hee, if_neg hdc, if_neg (by omega)]
      simp only [hoe, hee, hdc, h20, c0, c1, c2, decide_true, decide_false, Bool.not_true, coreS, Value.cells, Value.oneCell', Nat.reduceAdd, Nat.reduceSub, Nat.reduceMul, Nat.reduceLeDiff, Int.reduceEq, Nat.reduceEqDiff, C2Fs19]
      refine CallsH.mono (indexFunc66 a n c es 67 _ (fun x => decide (e.d < x.d)) h2 (hr.ext y2) hn hl fun x _ h' x' => closure67 x e (h.size + 1) h' (x'.get c1)) ?_
      rintro v h3 ⟨rfl, x3⟩
      have d0 := x3.get c0
      have d1 := x3.get c1
      have d2 := x3.get c2
      have y3 := y2.trans x3
      have hk := insK_le es e
      obtain ⟨k, hkd⟩ : ∃ k, k = insK es e := ⟨_, rfl⟩
      have hidx : idxE (fun x => decide (e.d < x.d)) es = if k < es.length then (k : Int) else -1 := by
        rw [hkd, insK]
        unfold idxE
        rw [List.findIdx?_eq_guard_findIdx_lt]
        by_cases h7 : es.findIdx (fun x => decide (e.d < x.d)) < es.length
        · simp [h7, Option.guard]
        · simp [h7, Option.guard]
      by_cases hkl : k < es.length
      · rw [if_pos hkl] at hidx
        simp only [hidx, coreS, Value.cells, Value.oneCell', Nat.reduceAdd, Nat.reduceSub, Nat.reduceMul, Nat.reduceLeDiff, Int.reduceEq, Nat.reduceEqDiff, C2Fs19]
        refine ⟨fun h7 => absurd h7 (by omega), fun _ => ?_⟩
        refine WP_fork (by kernel_rfl) sta_ext 2 5 [(0, 0), (1, 0), (3, 0), (4, 0)] [(6, 1), (7, 0), (8, 1)] (by kernel_rfl) (by kernel_rfl) (by kernel_rfl) rfl (by kernel_rfl) ?_
        simp only [execF_quiet, stF_plain, setF_eq, d0, d1, coreS, Value.cells, Value.oneCell', Nat.reduceAdd, Nat.reduceSub, Nat.reduceMul, Nat.reduceLeDiff, Int.reduceEq, Nat.reduceEqDiff, drawS, C2Fs19]
        have hs3 := lt_of_get d2
        refine execF_nil fun h4 x4 => ⟨?_, ?_⟩
        · simp only [twoW_eq, coreS, Value.cells, Value.oneCell', Nat.reduceAdd, Nat.reduceSub, Nat.reduceMul, Nat.reduceLeDiff, Int.reduceEq, Nat.reduceEqDiff, drawS, C2Fs19]
          refine CallsH.mono (clone69 a _ c es h4 (hr.ext (y3.trans x4)) hn (by omega)) ?_
          rintro v h5 ⟨a5, c5, rfl, O5, x5⟩
          refine ⟨x5, fun h6 x6 => ?_⟩
          simp only [splice, coreS, Value.cells, Value.oneCell', Nat.reduceAdd, Nat.reduceSub, Nat.reduceMul, Nat.reduceLeDiff, Int.reduceEq, Nat.reduceEqDiff, drawS, C2Fs19]
          refine ⟨by omega, (Ext.refl h6).push _, ?_⟩
          refine execD_alone_ext (by rfl) (by rfl) fun h7 x7 => ?_
          simp only [coreS, Value.cells, Value.oneCell', Nat.reduceAdd, Nat.reduceSub, Nat.reduceMul, Nat.reduceLeDiff, Int.reduceEq, Nat.reduceEqDiff, drawS, C2Fs19]
          have O7 := ((O5.ext x6).ext ((Ext.refl h6).push _)).ext x7
          have xs7 : Ext h3 h7 := (((x4.trans x5).trans x6).push _).trans x7
          have xle : h3.size ≤ h4.size := x4.size
          refine CallsH.mono (insert68 h4.size a5 _ c5 k h6.size es e h7 O7 (by have := x5.size; have := x6.size; have := x7.size; simp at this; omega) hn (by omega) (by omega) (x7.get push_new) (fun p hp => by have := (O5.lt hp).1; have := x6.size; omega)) ?_
          rintro v h8 ⟨a8, c8, rfl, hrow8, hblk8, hx8⟩
          have X8 := hx8 _ xs7 xle
          have k0 := X8.get d0
          have k2 := X8.get d2
          simp only [coreS, Value.cells, Value.oneCell', Nat.reduceAdd, Nat.reduceSub, Nat.reduceMul, Nat.reduceLeDiff, Int.reduceEq, Nat.reduceEqDiff, drawS, C2Fs19]
          refine execD_alone_ext (by rfl) (by rfl) fun h9 x9 => ?_
          simp only [x9.get k0, coreS, Value.cells, Value.oneCell', Nat.reduceAdd, Nat.reduceSub, Nat.reduceMul, Nat.reduceLeDiff, Int.reduceEq, Nat.reduceEqDiff, drawS, C2Fs19]
          refine stK_abs (x9.get k0) (by simp) fun h10 g10 u10 => ?_
          simp only [splice] at g10
          simp only [setD_eq, execD_nil, coreS, Value.cells, Value.oneCell', Nat.reduceAdd, Nat.reduceSub, Nat.reduceMul, Nat.reduceLeDiff, Int.reduceEq, Nat.reduceEqDiff, drawS, C2Fs19]
          refine hvK_mk fun h11 x11 => ?_
          have g11 := x11.get g10
          have k11 := x11.get (u10.get (x9.get k2) (by omega))
          have r11 := (row_upd (hrow8.ext x9) u10 (fun p hp => by have := hblk8 p hp; omega)).ext x11
          have X11 := (u10.ext (((y3.trans X8)).trans x9) (by omega)).trans x11
          simp only [g11, k11, coreS, Value.cells, Value.oneCell', Nat.reduceAdd, Nat.reduceSub, Nat.reduceMul, Nat.reduceLeDiff, Int.reduceEq, Nat.reduceEqDiff, C2Fs19]
          refine stK_abs k11 (by simp) fun h12 g12 u12 => ?_
          simp only [splice] at g12
          simp only [g12, splice, coreS, Value.cells, Value.oneCell', Nat.reduceAdd, Nat.reduceSub, Nat.reduceMul, Nat.reduceLeDiff, Int.reduceEq, Nat.reduceEqDiff, C2Fs19]
          refine ⟨⟨a8, _, _, by rw [pstA, pstC, if_pos hp, if_pos hp, hp], ?_, by rw [pstL, if_pos hp, ins_length, hn], fun p hp => by have := hblk8 p hp; have := y3.size; omega⟩, u12.ext X11 (by omega)⟩
          rw [pstL, if_pos hp, ins, ← hkd]
          exact row_upd r11 u12 (fun p hp => by have := hblk8 p hp; omega)
        · simp only [twoW_eq, splice, coreS, Value.cells, Value.oneCell', Nat.reduceAdd, Nat.reduceSub, Nat.reduceMul, Nat.reduceLeDiff, Int.reduceEq, Nat.reduceEqDiff, drawS, C2Fs19]
          refine ⟨by omega, (Ext.refl h4).push _, fun h5 x5 => ?_⟩
          refine CallsH.mono (clone69 a _ c es h5 (hr.ext (y3.trans (x4.trans (x5.of_push)))) hn (by omega)) ?_
          rintro v h6 ⟨a5, c5, rfl, O5, x6⟩
          refine ⟨x6, ?_⟩
          refine execD_alone_ext (by rfl) (by rfl) fun h7 x7 => ?_
          simp only [coreS, Value.cells, Value.oneCell', Nat.reduceAdd, Nat.reduceSub, Nat.reduceMul, Nat.reduceLeDiff, Int.reduceEq, Nat.reduceEqDiff, drawS, C2Fs19]
          have O7 := O5.ext x7
          have xs7 : Ext h3 h7 := ((x4.trans x5.of_push).trans x6).trans x7
          have xle : h3.size ≤ h5.size := (x4.trans x5.of_push).size
          refine CallsH.mono (insert68 h5.size a5 _ c5 k h4.size es e h7 O7 (by have := x6.size; have := x7.size; omega) hn (by omega) (by omega) (x7.get (x6.get (x5.get push_new))) (fun p hp => by have := (O5.lt hp).2; have := x5.size; simp at this; omega)) ?_
          rintro v h8 ⟨a8, c8, rfl, hrow8, hblk8, hx8⟩
          have X8 := hx8 _ xs7 xle
          have k0 := X8.get d0
          have k2 := X8.get d2
          simp only [coreS, Value.cells, Value.oneCell', Nat.reduceAdd, Nat.reduceSub, Nat.reduceMul, Nat.reduceLeDiff, Int.reduceEq, Nat.reduceEqDiff, drawS, C2Fs19]
          refine execD_alone_ext (by rfl) (by rfl) fun h9 x9 => ?_
          simp only [x9.get k0, coreS, Value.cells, Value.oneCell', Nat.reduceAdd, Nat.reduceSub, Nat.reduceMul, Nat.reduceLeDiff, Int.reduceEq, Nat.reduceEqDiff, drawS, C2Fs19]
          refine stK_abs (x9.get k0) (by simp) fun h10 g10 u10 => ?_
          simp only [splice] at g10
          simp only [setD_eq, execD_nil, coreS, Value.cells, Value.oneCell', Nat.reduceAdd, Nat.reduceSub, Nat.reduceMul, Nat.reduceLeDiff, Int.reduceEq, Nat.reduceEqDiff, drawS, C2Fs19]
          refine hvK_mk fun h11 x11 => ?_
          have g11 := x11.get g10
          have k11 := x11.get (u10.get (x9.get k2) (by omega))
          have r11 := (row_upd (hrow8.ext x9) u10 (fun p hp => by have := hblk8 p hp; omega)).ext x11
          have X11 := (u10.ext (((y3.trans X8)).trans x9) (by omega)).trans x11
          simp only [g11, k11, coreS, Value.cells, Value.oneCell', Nat.reduceAdd, Nat.reduceSub, Nat.reduceMul, Nat.reduceLeDiff, Int.reduceEq, Nat.reduceEqDiff, C2Fs19]
          refine stK_abs k11 (by simp) fun h12 g12 u12 => ?_
          simp only [splice] at g12
          simp only [g12, splice, coreS, Value.cells, Value.oneCell', Nat.reduceAdd, Nat.reduceSub, Nat.reduceMul, Nat.reduceLeDiff, Int.reduceEq, Nat.reduceEqDiff, C2Fs19]
          refine ⟨⟨a8, _, _, by rw [pstA, pstC, if_pos hp, if_pos hp, hp], ?_, by rw [pstL, if_pos hp, ins_length, hn], fun p hp => by have := hblk8 p hp; have := y3.size; omega⟩, u12.ext X11 (by omega)⟩
          rw [pstL, if_pos hp, ins, ← hkd]
          exact row_upd r11 u12 (fun p hp => by have := hblk8 p hp; omega)
      · rw [if_neg hkl] at hidx
        simp only [hidx, d0, coreS, Value.cells, Value.oneCell', Nat.reduceAdd, Nat.reduceSub, Nat.reduceMul, Nat.reduceLeDiff, Int.reduceEq, Nat.reduceEqDiff, C2Fs19]
        have hkn : k = n := by omega
        subst hkn
        try (refine ⟨fun _ => ?_, fun h7 => absurd h7 (by omega)⟩)
        refine WP_fork (by kernel_rfl) sta_ext 2 5 [(0, 0), (1, 0), (3, 0), (4, 0)] [(6, 1), (7, 0), (8, 1)] (by kernel_rfl) (by kernel_rfl) (by kernel_rfl) rfl (by kernel_rfl) ?_
        simp only [execF_quiet, stF_plain, setF_eq, d0, d1, coreS, Value.cells, Value.oneCell', Nat.reduceAdd, Nat.reduceSub, Nat.reduceMul, Nat.reduceLeDiff, Int.reduceEq, Nat.reduceEqDiff, drawS, C2Fs19]
        have hs3 := lt_of_get d2
        refine execF_nil fun h4 x4 => ⟨?_, ?_⟩
        · simp only [twoW_eq, coreS, Value.cells, Value.oneCell', Nat.reduceAdd, Nat.reduceSub, Nat.reduceMul, Nat.reduceLeDiff, Int.reduceEq, Nat.reduceEqDiff, drawS, C2Fs19]
          refine CallsH.mono (clone69 a _ c es h4 (hr.ext (y3.trans x4)) hn (by omega)) ?_
          rintro v h5 ⟨a5, c5, rfl, O5, x5⟩
          refine ⟨x5, fun h6 x6 => ?_⟩
          simp only [splice, coreS, Value.cells, Value.oneCell', Nat.reduceAdd, Nat.reduceSub, Nat.reduceMul, Nat.reduceLeDiff, Int.reduceEq, Nat.reduceEqDiff, drawS, C2Fs19]
          refine ⟨by omega, (Ext.refl h6).push _, ?_⟩
          refine execD_alone_ext (by rfl) (by rfl) fun h7 x7 => ?_
          simp only [coreS, Value.cells, Value.oneCell', Nat.reduceAdd, Nat.reduceSub, Nat.reduceMul, Nat.reduceLeDiff, Int.reduceEq, Nat.reduceEqDiff, drawS, C2Fs19]
          have O7 := ((O5.ext x6).ext ((Ext.refl h6).push _)).ext x7
          have xs7 : Ext h3 h7 := (((x4.trans x5).trans x6).push _).trans x7
          have xle : h3.size ≤ h4.size := x4.size
          refine CallsH.mono (insert68 h4.size a5 _ c5 k h6.size es e h7 O7 (by have := x5.size; have := x6.size; have := x7.size; simp at this; omega) hn (by omega) (by omega) (x7.get push_new) (fun p hp => by have := (O5.lt hp).1; have := x6.size; omega)) ?_
          rintro v h8 ⟨a8, c8, rfl, hrow8, hblk8, hx8⟩
          have X8 := hx8 _ xs7 xle
          have k0 := X8.get d0
          have k2 := X8.get d2
          simp only [coreS, Value.cells, Value.oneCell', Nat.reduceAdd, Nat.reduceSub, Nat.reduceMul, Nat.reduceLeDiff, Int.reduceEq, Nat.reduceEqDiff, drawS, C2Fs19]
          refine execD_alone_ext (by rfl) (by rfl) fun h9 x9 => ?_
          simp only [x9.get k0, coreS, Value.cells, Value.oneCell', Nat.reduceAdd, Nat.reduceSub, Nat.reduceMul, Nat.reduceLeDiff, Int.reduceEq, Nat.reduceEqDiff, drawS, C2Fs19]
          refine stK_abs (x9.get k0) (by simp) fun h10 g10 u10 => ?_
          simp only [splice] at g10
          simp only [setD_eq, execD_nil, coreS, Value.cells, Value.oneCell', Nat.reduceAdd, Nat.reduceSub, Nat.reduceMul, Nat.reduceLeDiff, Int.reduceEq, Nat.reduceEqDiff, drawS, C2Fs19]
          refine hvK_mk fun h11 x11 => ?_
          have g11 := x11.get g10
          have k11 := x11.get (u10.get (x9.get k2) (by omega))
          have r11 := (row_upd (hrow8.ext x9) u10 (fun p hp => by have := hblk8 p hp; omega)).ext x11
          have X11 := (u10.ext (((y3.trans X8)).trans x9) (by omega)).trans x11
          simp only [g11, k11, coreS, Value.cells, Value.oneCell', Nat.reduceAdd, Nat.reduceSub, Nat.reduceMul, Nat.reduceLeDiff, Int.reduceEq, Nat.reduceEqDiff, C2Fs19]
          refine stK_abs k11 (by simp) fun h12 g12 u12 => ?_
          simp only [splice] at g12
          simp only [g12, splice, coreS, Value.cells, Value.oneCell', Nat.reduceAdd, Nat.reduceSub, Nat.reduceMul, Nat.reduceLeDiff, Int.reduceEq, Nat.reduceEqDiff, C2Fs19]
          refine ⟨⟨a8, _, _, by rw [pstA, pstC, if_pos hp, if_pos hp, hp], ?_, by rw [pstL, if_pos hp, ins_length, hn], fun p hp => by have := hblk8 p hp; have := y3.size; omega⟩, u12.ext X11 (by omega)⟩
          rw [pstL, if_pos hp, ins, ← hkd]
          exact row_upd r11 u12 (fun p hp => by have := hblk8 p hp; omega)
        · simp only [twoW_eq, splice, coreS, Value.cells, Value.oneCell', Nat.reduceAdd, Nat.reduceSub, Nat.reduceMul, Nat.reduceLeDiff, Int.reduceEq, Nat.reduceEqDiff, drawS, C2Fs19]
          refine ⟨by omega, (Ext.refl h4).push _, fun h5 x5 => ?_⟩
          refine CallsH.mono (clone69 a _ c es h5 (hr.ext (y3.trans (x4.trans (x5.of_push)))) hn (by omega)) ?_
          rintro v h6 ⟨a5, c5, rfl, O5, x6⟩
          refine ⟨x6, ?_⟩
          refine execD_alone_ext (by rfl) (by rfl) fun h7 x7 => ?_
          simp only [coreS, Value.cells, Value.oneCell', Nat.reduceAdd, Nat.reduceSub, Nat.reduceMul, Nat.reduceLeDiff, Int.reduceEq, Nat.reduceEqDiff, drawS, C2Fs19]
          have O7 := O5.ext x7
          have xs7 : Ext h3 h7 := ((x4.trans x5.of_push).trans x6).trans x7
          have xle : h3.size ≤ h5.size := (x4.trans x5.of_push).size
          refine CallsH.mono (insert68 h5.size a5 _ c5 k h4.size es e h7 O7 (by have := x6.size; have := x7.size; omega) hn (by omega) (by omega) (x7.get (x6.get (x5.get push_new))) (fun p hp => by have := (O5.lt hp).2; have := x5.size; simp at this; omega)) ?_
          rintro v h8 ⟨a8, c8, rfl, hrow8, hblk8, hx8⟩
          have X8 := hx8 _ xs7 xle
          have k0 := X8.get d0
          have k2 := X8.get d2
          simp only [coreS, Value.cells, Value.oneCell', Nat.reduceAdd, Nat.reduceSub, Nat.reduceMul, Nat.reduceLeDiff, Int.reduceEq, Nat.reduceEqDiff, drawS, C2Fs19]
          refine execD_alone_ext (by rfl) (by rfl) fun h9 x9 => ?_
          simp only [x9.get k0, coreS, Value.cells, Value.oneCell', Nat.reduceAdd, Nat.reduceSub, Nat.reduceMul, Nat.reduceLeDiff, Int.reduceEq, Nat.reduceEqDiff, drawS, C2Fs19]
          refine stK_abs (x9.get k0) (by simp) fun h10 g10 u10 => ?_
          simp only [splice] at g10
          simp only [setD_eq, execD_nil, coreS, Value.cells, Value.oneCell', Nat.reduceAdd, Nat.reduceSub, Nat.reduceMul, Nat.reduceLeDiff, Int.reduceEq, Nat.reduceEqDiff, drawS, C2Fs19]
          refine hvK_mk fun h11 x11 => ?_
          have g11 := x11.get g10
          have k11 := x11.get (u10.get (x9.get k2) (by omega))
          have r11 := (row_upd (hrow8.ext x9) u10 (fun p hp => by have := hblk8 p hp; omega)).ext x11
          have X11 := (u10.ext (((y3.trans X8)).trans x9) (by omega)).trans x11
          simp only [g11, k11, coreS, Value.cells, Value.oneCell', Nat.reduceAdd, Nat.reduceSub, Nat.reduceMul, Nat.reduceLeDiff, Int.reduceEq, Nat.reduceEqDiff, C2Fs19]
          refine stK_abs k11 (by simp) fun h12 g12 u12 => ?_
          simp only [splice] at g12
          simp only [g12, splice, coreS, Value.cells, Value.oneCell', Nat.reduceAdd, Nat.reduceSub, Nat.reduceMul, Nat.reduceLeDiff, Int.reduceEq, Nat.reduceEqDiff, C2Fs19]
          refine ⟨⟨a8, _, _, by rw [pstA, pstC, if_pos hp, if_pos hp, hp], ?_, by rw [pstL, if_pos hp, ins_length, hn], fun p hp => by have := hblk8 p hp; have := y3.size; omega⟩, u12.ext X11 (by omega)⟩
          rw [pstL, if_pos hp, ins, ← hkd]
          exact row_upd r11 u12 (fun p hp => by have := hblk8 p hp; omega)
    · have hp : pst acc cl es e = 3 := by unfold pst; rw [if_neg (by simpa using hc), if_pos hoe]
      simp only [hoe, c2, decide_false, Bool.not_false, coreS, Value.cells, Value.oneCell', Nat.reduceAdd, Nat.reduceSub, Nat.reduceMul, Nat.reduceLeDiff, Int.reduceEq, Nat.reduceEqDiff, C2Fs19]
      refine stK_abs c2 (by simp) fun h9 g9 u9 => ?_
      simp only [splice] at g9
      simp only [g9, splice, coreS, Value.cells, Value.oneCell', Nat.reduceAdd, Nat.reduceSub, Nat.reduceMul, Nat.reduceLeDiff, Int.reduceEq, Nat.reduceEqDiff, C2Fs19]
      exact bad (hp) (by omega) (u9.ext y2 (by omega))
  · have hp : pst acc cl es e = chk acc cl es := by unfold pst; rw [if_pos hc]
    simp only [hc, hb2, decide_false, Bool.not_false, coreS, Value.cells, Value.oneCell', Nat.reduceAdd, Nat.reduceSub, Nat.reduceMul, Nat.reduceLeDiff, Int.reduceEq, Nat.reduceEqDiff, C2Fs19]
    refine stK_abs hb2 (by simp) fun h9 g9 u9 => ?_
    simp only [splice] at g9
    simp only [g9, splice, coreS, Value.cells, Value.oneCell', Nat.reduceAdd, Nat.reduceSub, Nat.reduceMul, Nat.reduceLeDiff, Int.reduceEq, Nat.reduceEqDiff, C2Fs19]
    exact bad (hp) (hc) (u9.ext y1 (by omega))
end Go.Proofs.YtepaekbjoombpaaGreatDoor
