/- Walks: Close, of both. -/
import Derived.Test.YtepaekbjoombpaaGreatDoorC4a
import Derived.Test.YtepaekbjoombpaaGreatDoorEngK
import Derived.Test.YtepaekbjoombpaaGreatDoorC3a
namespace Go.Proofs.YtepaekbjoombpaaGreatDoor
open Go Go.Proofs Go.Eng Go.Run Tab
set_option maxRecDepth 100000
set_option linter.unusedSimpArgs false
set_option linter.unusedVariables false
set_option maxHeartbeats 2000000
set_option linter.defProp false
def C6Fs23 := (And.intro (And.intro (And.intro (And.intro @agg22 @agg24) (And.intro @agg3 @by3)) (And.intro (And.intro @fo24_1 @fo24_2) (And.intro @inf22 @inf24))) (And.intro (And.intro (And.intro @inf3 @okf24) (And.intro @sz22 @sz24)) (And.intro (And.intro @sz3 @zero24) (And.intro @zero3 @Tryz.underlying40))))
def C6Fs24 := (And.intro (And.intro (And.intro (And.intro @agg22 @agg24) (And.intro @agg3 (And.intro @by26 @fo24_0))) (And.intro (And.intro @fo24_1 (And.intro @fo24_2 @fps24_0)) (And.intro @fps24_1 (And.intro @fps24_2 @inf22)))) (And.intro (And.intro (And.intro @inf24 @inf26) (And.intro @inf3 (And.intro @okf24 @sz22))) (And.intro (And.intro @sz24 (And.intro @sz26 @sz3)) (And.intro @zero24 (And.intro @zero26 @Tryz.underlying22)))))
noncomputable def cls (acc cl : Int) (es : List En) (day : Int) : Int := if opn acc cl es [day] ≠ 0 then opn acc cl es [day] else if day < cl then 25 else 0
noncomputable def clsA (acc cl : Int) (es : List En) (day : Int) : Int := if cls acc cl es day = 0 then acc else 0
noncomputable def clsC (acc cl : Int) (es : List En) (day : Int) : Int := if cls acc cl es day = 0 then day else 0
noncomputable def clsL (acc cl : Int) (es : List En) (day : Int) : List En := if cls acc cl es day = 0 then es else []
theorem close23 (acc cl : Int) (a : Option Addr) (n c : Nat) (es : List En) (day : Int) (h : Eng.Heap) (hr : Row h a (ensV es)) (hn : n = es.length) (hl : n ≤ 1000000) :
    CallsH Tryz.prog 23 #[.agg #[.int .i64 acc, .int .i64 cl, .slice a n c], .int .i64 day] h (fun v h' =>
      (∃ a' n' c', v = .tuple #[.agg #[.int .i64 (clsA acc cl es day), .int .i64 (clsC acc cl es day), .slice a' n' c'], .int .i64 (cls acc cl es day)] ∧ Row h' a' (ensV (clsL acc cl es day)) ∧ n' = (clsL acc cl es day).length) ∧ Ext h h') := by
  refine CallsH_of_exec Tryz.func23 rfl bod23 ?_
  simp only [Tryz.ntmps23, Tryz.results23, coreS, stK_some, splice, Value.cells, Value.oneCell', Nat.reduceAdd, Nat.reduceSub, Nat.reduceMul, Nat.reduceLeDiff, Int.reduceEq, Nat.reduceEqDiff, C6Fs23]
  try simp only [show ¬ (h.size = h.size + 1 + 1) by omega, if_false, coreS, Value.cells, Value.oneCell', Nat.reduceAdd, Nat.reduceSub, Nat.reduceMul, Nat.reduceLeDiff, Int.reduceEq, Nat.reduceEqDiff, C6Fs23]
  refine CallsH.mono (open72 acc cl a n c es _ 1 1 [day] _ (((hr.push _).push _).push _) hn hl (intsV_one (by rw [Array.getElem?_push, if_pos (by simp)])) (by omega)) ?_
  rintro v h1 ⟨x1, H⟩
  have hb0 := x1.get (push_old (push_old (push_new (h := h))))
  have hb2 := x1.get (push_old pn1)
  have y1 := x1.of_push.of_push.of_push
  have bad : ∀ {p : Int} {h2 : Eng.Heap}, cls acc cl es day = p → p ≠ 0 → Ext h h2 → (∃ a' n' c', Value.tuple #[.agg #[.int .i64 0, .int .i64 0, .slice none 0 0], .int .i64 p] = .tuple #[.agg #[.int .i64 (clsA acc cl es day), .int .i64 (clsC acc cl es day), .slice a' n' c'], .int .i64 (cls acc cl es day)] ∧ Row h2 a' (ensV (clsL acc cl es day)) ∧ n' = (clsL acc cl es day).length) ∧ Ext h h2 := by
    rintro p h2 rfl hp x
    exact ⟨⟨none, 0, 0, by rw [clsA, clsC, if_neg hp, if_neg hp], by rw [clsL, if_neg hp]; exact .inl rfl, by rw [clsL, if_neg hp]; rfl⟩, x⟩
  rcases H with ⟨e0, g, rfl, hg, hsz⟩ | ⟨e0, rfl⟩
  · obtain ⟨hc, hd⟩ := opn_ok e0
    obtain ⟨ha, hl2, hcl, hok, hso, hft⟩ := chk_ok hc
    by_cases hdc : day < cl
    · have hp : cls acc cl es day = 25 := by unfold cls; rw [if_neg (by simpa using e0), if_pos hdc]
      simp only [hdc, hb0, hb2, decide_true, coreS, Value.cells, Value.oneCell', Nat.reduceAdd, Nat.reduceSub, Nat.reduceMul, Nat.reduceLeDiff, Int.reduceEq, Nat.reduceEqDiff, C6Fs23]
      refine stK_abs hb2 (by simp) fun h9 g9 u9 => ?_
      simp only [splice] at g9
      simp only [g9, splice, coreS, Value.cells, Value.oneCell', Nat.reduceAdd, Nat.reduceSub, Nat.reduceMul, Nat.reduceLeDiff, Int.reduceEq, Nat.reduceEqDiff, C6Fs23]
      exact bad hp (by omega) (u9.ext y1 (by omega))
    · have hp : cls acc cl es day = 0 := by unfold cls; rw [if_neg (by simpa using e0), if_neg hdc]
      simp only [hdc, hb0, hb2, decide_false, coreS, Value.cells, Value.oneCell', Nat.reduceAdd, Nat.reduceSub, Nat.reduceMul, Nat.reduceLeDiff, Int.reduceEq, Nat.reduceEqDiff, C6Fs23]
      refine CallsH.mono (clone69 a n c es h1 (hr.ext y1) hn (by omega)) ?_
      rintro v h2 ⟨a2, c2, rfl, O2, x2⟩
      have hs1 := lt_of_get hb2
      simp only [x2.get hb0, coreS, Value.cells, Value.oneCell', Nat.reduceAdd, Nat.reduceSub, Nat.reduceMul, Nat.reduceLeDiff, Int.reduceEq, Nat.reduceEqDiff, C6Fs23]
      refine stK_abs (x2.get hb0) (by simp) fun h3 g3 u3 => ?_
      simp only [splice] at g3
      simp only [g3, coreS, Value.cells, Value.oneCell', Nat.reduceAdd, Nat.reduceSub, Nat.reduceMul, Nat.reduceLeDiff, Int.reduceEq, Nat.reduceEqDiff, C6Fs23]
      refine stK_abs g3 (by simp) fun h4 g4 u4 => ?_
      simp only [splice] at g4
      have k2 := u4.get (u3.get (x2.get hb2) (by omega)) (by omega)
      simp only [g4, k2, coreS, Value.cells, Value.oneCell', Nat.reduceAdd, Nat.reduceSub, Nat.reduceMul, Nat.reduceLeDiff, Int.reduceEq, Nat.reduceEqDiff, C6Fs23]
      refine stK_abs k2 (by simp) fun h5 g5 u5 => ?_
      simp only [splice] at g5
      simp only [g5, splice, coreS, Value.cells, Value.oneCell', Nat.reduceAdd, Nat.reduceSub, Nat.reduceMul, Nat.reduceLeDiff, Int.reduceEq, Nat.reduceEqDiff, C6Fs23]
      refine ⟨⟨a2, n, c2, by rw [clsA, clsC, if_pos hp, if_pos hp, hp], ?_, by rw [clsL, if_pos hp]; exact hn⟩, u5.ext (u4.ext (u3.ext (y1.trans x2) (by omega)) (by omega)) (by omega)⟩
      rw [clsL, if_pos hp]
      exact row_upd (row_upd (row_upd O2.row u3 (fun p hp => by have := (O2.lt hp).2; omega)) u4 (fun p hp => by have := (O2.lt hp).2; omega)) u5 (fun p hp => by have := (O2.lt hp).2; omega)
  · have hp : cls acc cl es day = opn acc cl es [day] := by unfold cls; rw [if_pos e0]
    simp only [e0, hb2, decide_false, Bool.not_false, coreS, Value.cells, Value.oneCell', Nat.reduceAdd, Nat.reduceSub, Nat.reduceMul, Nat.reduceLeDiff, Int.reduceEq, Nat.reduceEqDiff, C6Fs23]
    refine stK_abs hb2 (by simp) fun h9 g9 u9 => ?_
    simp only [splice] at g9
    simp only [g9, splice, coreS, Value.cells, Value.oneCell', Nat.reduceAdd, Nat.reduceSub, Nat.reduceMul, Nat.reduceLeDiff, Int.reduceEq, Nat.reduceEqDiff, C6Fs23]
    exact bad hp e0 (u9.ext y1 (by omega))
theorem close24 (acc cl : Int) (a : Option Addr) (n c : Nat) (es : List En) (day : Int) (h : Eng.Heap) (hr : Row h a (ensV es)) (hn : n = es.length) (hl : n ≤ 1000000) :
    CallsH Tryz.prog 24 #[.agg #[.int .i64 acc, .int .i64 cl, .slice a n c], .int .i64 day] h (fun v h' =>
      (∃ a' n' c', v = .tuple #[.agg #[.int .i64 (clsA acc cl es day), .int .i64 (clsC acc cl es day), .slice a' n' c'], .int .i64 (cls acc cl es day)] ∧ Row h' a' (ensV (clsL acc cl es day)) ∧ n' = (clsL acc cl es day).length) ∧ Ext h h') := by
  refine CallsH_of_exec Tryz.func24 rfl bod24 ?_
  simp only [Tryz.ntmps24, Tryz.results24, coreS, stK_some, splice, Value.cells, Value.oneCell', Nat.reduceAdd, Nat.reduceSub, Nat.reduceMul, Nat.reduceLeDiff, Int.reduceEq, Nat.reduceEqDiff, C6Fs24]
  refine CallsH.mono (dayError73 acc cl a n c es day _ ((hr.push _).push _) hn hl) ?_
  rintro v h1 ⟨rfl, x1⟩
  have hb0 := x1.get pn0
  have hb2 := x1.get pn1
  have y1 := x1.of_push.of_push
  have bad : ∀ {p : Int} {h2 : Eng.Heap}, cls acc cl es day = p → p ≠ 0 → Ext h h2 → (∃ a' n' c', Value.tuple #[.agg #[.int .i64 0, .int .i64 0, .slice none 0 0], .int .i64 p] = .tuple #[.agg #[.int .i64 (clsA acc cl es day), .int .i64 (clsC acc cl es day), .slice a' n' c'], .int .i64 (cls acc cl es day)] ∧ Row h2 a' (ensV (clsL acc cl es day)) ∧ n' = (clsL acc cl es day).length) ∧ Ext h h2 := by
    rintro p h2 rfl hp x
    exact ⟨⟨none, 0, 0, by rw [clsA, clsC, if_neg hp, if_neg hp], by rw [clsL, if_neg hp]; exact .inl rfl, by rw [clsL, if_neg hp]; rfl⟩, x⟩
  by_cases e0 : opn acc cl es [day] = 0
  · obtain ⟨hc, hd⟩ := opn_ok e0
    obtain ⟨ha, hl2, hcl, hok, hso, hft⟩ := chk_ok hc
    by_cases hdc : day < cl
    · have hp : cls acc cl es day = 25 := by unfold cls; rw [if_neg (by simpa using e0), if_pos hdc]
      simp only [e0, hdc, hb0, hb2, decide_true, Bool.not_true, coreS, Value.cells, Value.oneCell', Nat.reduceAdd, Nat.reduceSub, Nat.reduceMul, Nat.reduceLeDiff, Int.reduceEq, Nat.reduceEqDiff, C6Fs24]
      refine stK_abs hb2 (by simp) fun h9 g9 u9 => ?_
      simp only [splice] at g9
      simp only [g9, splice, coreS, Value.cells, Value.oneCell', Nat.reduceAdd, Nat.reduceSub, Nat.reduceMul, Nat.reduceLeDiff, Int.reduceEq, Nat.reduceEqDiff, C6Fs24]
      exact bad hp (by omega) (u9.ext y1 (by omega))
    · have hp : cls acc cl es day = 0 := by unfold cls; rw [if_neg (by simpa using e0), if_neg hdc]
      have hs1 := lt_of_get hb2
      simp only [e0, hdc, hb0, hb2, decide_true, decide_false, Bool.not_true, coreS, Value.cells, Value.oneCell', Nat.reduceAdd, Nat.reduceSub, Nat.reduceMul, Nat.reduceLeDiff, Int.reduceEq, Nat.reduceEqDiff, C6Fs24]
      refine WP_tree (by kernel_rfl) sta_ext (.quiet 0 (.quiet 1 (.quiet 2 (.quiet 4 (.quiet 5 (.keep 3 (.keep 6 (.quiet 7 (.one 8 (.quiet 9 (.fin))))))))))) (by kernel_rfl) rfl (by kernel_rfl) ?_
      simp only [execT_quiet, stT_plain, setT_eq, hb0, coreS, Value.cells, Value.oneCell', Nat.reduceAdd, Nat.reduceSub, Nat.reduceMul, Nat.reduceLeDiff, Int.reduceEq, Nat.reduceEqDiff, drawS, C6Fs24]
      refine execT_keep fun h2 x2 => ?_
      simp only [stO_plain, coreS, Value.cells, Value.oneCell', Nat.reduceAdd, Nat.reduceSub, Nat.reduceMul, Nat.reduceLeDiff, Int.reduceEq, Nat.reduceEqDiff, drawS, C6Fs24]
      refine ⟨by omega, (Ext.refl h2).push _, ?_⟩
      refine execT_keep fun h3 x3 => ?_
      simp only [stO_plain, coreS, Value.cells, Value.oneCell', Nat.reduceAdd, Nat.reduceSub, Nat.reduceMul, Nat.reduceLeDiff, Int.reduceEq, Nat.reduceEqDiff, drawS, C6Fs24]
      refine apf22 rfl rfl (x3.get push_new) (hr.ext ((y1.trans x2).trans x3.of_push)) hn.symm (by omega) fun a4 c4 h4 O4 x4 => ⟨x4, ?_⟩
      simp only [execT_quiet, stT_plain, setT_eq, splice, coreS, Value.cells, Value.oneCell', Nat.reduceAdd, Nat.reduceSub, Nat.reduceMul, Nat.reduceLeDiff, Int.reduceEq, Nat.reduceEqDiff, drawS, C6Fs24]
      refine execT_one fun h5 x5 => ?_
      have k2 := x5.get (x4.get (x3.get (push_old (x2.get hb2))))
      have hs2 := x2.size
      simp only [stO_plain, k2, splice, coreS, Value.cells, Value.oneCell', Nat.reduceAdd, Nat.reduceSub, Nat.reduceMul, Nat.reduceLeDiff, Int.reduceEq, Nat.reduceEqDiff, drawS, C6Fs24]
      refine stK_abs k2 (by simp) fun h6 g6 u6 => ?_
      simp only [splice] at g6
      simp only [execT_quiet, stT_plain, setT_eq, coreS, Value.cells, Value.oneCell', Nat.reduceAdd, Nat.reduceSub, Nat.reduceMul, Nat.reduceLeDiff, Int.reduceEq, Nat.reduceEqDiff, drawS, C6Fs24]
      refine execT_fin fun h7 x7 => ?_
      have g7 := x7.get g6
      simp only [g7, splice, coreS, Value.cells, Value.oneCell', Nat.reduceAdd, Nat.reduceSub, Nat.reduceMul, Nat.reduceLeDiff, Int.reduceEq, Nat.reduceEqDiff, C6Fs24]
      refine ⟨⟨a4, n, c4, by rw [clsA, clsC, if_pos hp, if_pos hp, hp], ?_, by rw [clsL, if_pos hp]; exact hn⟩, (u6.ext ((((y1.trans x2).trans x3.of_push).trans x4).trans x5) (by omega)).trans x7⟩
      rw [clsL, if_pos hp]
      exact (row_upd (O4.ext x5).row u6 (fun p hp => by have := (O4.lt hp).2; omega)).ext x7
  · have hp : cls acc cl es day = opn acc cl es [day] := by unfold cls; rw [if_pos e0]
    simp only [e0, hb0, decide_false, Bool.not_false, coreS, Value.cells, Value.oneCell', Nat.reduceAdd, Nat.reduceSub, Nat.reduceMul, Nat.reduceLeDiff, Int.reduceEq, Nat.reduceEqDiff, C6Fs24]
    refine CallsH.mono (dayError73 acc cl a n c es day _ (hr.ext y1) hn hl) ?_
    rintro v h2 ⟨rfl, x2⟩
    have c2 := x2.get hb2
    simp only [c2, coreS, Value.cells, Value.oneCell', Nat.reduceAdd, Nat.reduceSub, Nat.reduceMul, Nat.reduceLeDiff, Int.reduceEq, Nat.reduceEqDiff, C6Fs24]
    refine stK_abs c2 (by simp) fun h9 g9 u9 => ?_
    simp only [splice] at g9
    simp only [g9, splice, coreS, Value.cells, Value.oneCell', Nat.reduceAdd, Nat.reduceSub, Nat.reduceMul, Nat.reduceLeDiff, Int.reduceEq, Nat.reduceEqDiff, C6Fs24]
    exact bad hp e0 (u9.ext (y1.trans x2) (by omega))
end Go.Proofs.YtepaekbjoombpaaGreatDoor
