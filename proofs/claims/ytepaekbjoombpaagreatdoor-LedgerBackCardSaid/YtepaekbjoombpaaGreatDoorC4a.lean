/- Walks: Back, of the program. -/
import Derived.Test.YtepaekbjoombpaaGreatDoorC2
namespace Go.Proofs.YtepaekbjoombpaaGreatDoor
open Go Go.Proofs Go.Eng Go.Run Tab
set_option maxRecDepth 100000
set_option linter.unusedSimpArgs false
set_option linter.unusedVariables false
set_option maxHeartbeats 2000000
set_option linter.defProp false
def C4aFs21 := (And.intro (And.intro (And.intro (And.intro (And.intro @agg2 @agg22) (And.intro @agg24 @agg26)) (And.intro (And.intro @agg3 @by26) (And.intro @by3 @fo24_2))) (And.intro (And.intro (And.intro @fo26_0 @fo26_1) (And.intro @fo26_2 @fo26_3)) (And.intro (And.intro @fps26_0 @fps26_1) (And.intro @fps26_2 @fps26_3)))) (And.intro (And.intro (And.intro (And.intro @inf2 @inf22) (And.intro @inf24 @inf26)) (And.intro (And.intro @inf3 @okf24) (And.intro @okf26 @sz2))) (And.intro (And.intro (And.intro @sz22 @sz24) (And.intro @sz26 @sz3)) (And.intro (And.intro @zero24 @zero26) (And.intro @zero3 (And.intro @Tryz.underlying22 @Tryz.underlying40))))))
/-- What takes an entry back. -/
def bkX (es : List En) (i : Int) : En := es.getD i.toNat ⟨0, 0, 0, 0⟩
def bkE (es : List En) (i day : Int) : En := ⟨day, (bkX es i).t, (bkX es i).f, (bkX es i).a⟩
noncomputable def bck (acc cl : Int) (es : List En) (i day : Int) : Int :=
  if chk acc cl es ≠ 0 then chk acc cl es else if ¬ (0 ≤ i ∧ i < es.length) then 2 else if day < (bkX es i).d then 16 else pst acc cl es (bkE es i day)
noncomputable def bckA (acc cl : Int) (es : List En) (i day : Int) : Int := if bck acc cl es i day = 0 then acc else 0
noncomputable def bckC (acc cl : Int) (es : List En) (i day : Int) : Int := if bck acc cl es i day = 0 then cl else 0
noncomputable def bckL (acc cl : Int) (es : List En) (i day : Int) : List En := if bck acc cl es i day = 0 then ins es (bkE es i day) else []
theorem bkX_at {es : List En} {k : Nat} (hk : k < es.length) : bkX es k = es[k] := by simp [bkX, List.getD, List.getElem?_eq_getElem hk]
theorem back21 (acc cl : Int) (a : Option Addr) (n c : Nat) (es : List En) (i day : Int) (h : Eng.Heap) (hr : Row h a (ensV es)) (hn : n = es.length) (hl : n ≤ 1000000) :
    CallsH Tryz.prog 21 #[.agg #[.int .i64 acc, .int .i64 cl, .slice a n c], .int .i64 i, .int .i64 day] h (fun v h' =>
      (∃ a' n' c', v = .tuple #[.agg #[.int .i64 (bckA acc cl es i day), .int .i64 (bckC acc cl es i day), .slice a' n' c'], .int .i64 (bck acc cl es i day)] ∧ Row h' a' (ensV (bckL acc cl es i day)) ∧ n' = (bckL acc cl es i day).length ∧ ∀ p, a' = some p → h.size ≤ p.block) ∧ Ext h h') := by
  refine CallsH_of_exec Tryz.func21 rfl bod21 ?_
  simp only [Tryz.ntmps21, Tryz.results21, coreS, stK_some, splice, Value.cells, Value.oneCell', Nat.reduceAdd, Nat.reduceSub, Nat.reduceMul, Nat.reduceLeDiff, Int.reduceEq, Nat.reduceEqDiff, C4aFs21]
  refine CallsH.mono (check25 acc cl a n c es _ ((hr.push _).push _) hn hl) ?_
  rintro v h1 ⟨rfl, x1⟩
  have hb0 := x1.get pn0
  have hb2 := x1.get pn1
  have y1 := x1.of_push.of_push
  have bad : ∀ {p : Int} {h2 : Eng.Heap}, bck acc cl es i day = p → p ≠ 0 → Ext h h2 → (∃ a' n' c', Value.tuple #[.agg #[.int .i64 0, .int .i64 0, .slice none 0 0], .int .i64 p] = .tuple #[.agg #[.int .i64 (bckA acc cl es i day), .int .i64 (bckC acc cl es i day), .slice a' n' c'], .int .i64 (bck acc cl es i day)] ∧ Row h2 a' (ensV (bckL acc cl es i day)) ∧ n' = (bckL acc cl es i day).length ∧ ∀ p, a' = some p → h.size ≤ p.block) ∧ Ext h h2 := by
    rintro p h2 rfl hp x
    exact ⟨⟨none, 0, 0, by rw [bckA, bckC, if_neg hp, if_neg hp], by rw [bckL, if_neg hp]; exact .inl rfl, by rw [bckL, if_neg hp]; rfl, fun p hp => (by cases hp)⟩, x⟩
  by_cases hc : chk acc cl es = 0
  · obtain ⟨ha, hl2, hcl, hok, hso, hft⟩ := chk_ok hc
    simp only [hc, hb0, coreS, Value.cells, Value.oneCell', Nat.reduceAdd, Nat.reduceSub, Nat.reduceMul, Nat.reduceLeDiff, Int.reduceEq, Nat.reduceEqDiff, C4aFs21]
    refine ⟨by rw [inK_i64]; omega, ?_⟩
    refine CallsH.mono (within71 0 (n - 1) _ 1 1 [i] _ (intsV_one push_new) (by omega)) ?_
    rintro v h2 ⟨rfl, x2⟩
    have c0 := x2.of_push.get hb0
    have c2 := x2.of_push.get hb2
    have y2 := y1.trans x2.of_push
    by_cases hi : 0 ≤ i ∧ i ≤ (n : Int) - 1
    · have hiB := hi
      obtain ⟨k, rfl⟩ : ∃ k : Nat, i = k := ⟨i.toNat, by omega⟩
      have hk : k < es.length := by omega
      have hsm : a.isSome = true := hr.isSome (by rw [ensV_length]; omega)
      have hc1 := rowE (hr.ext y2) hk
      simp only [inB_one, hi, c0, c2, and_self, decide_true, Bool.not_true, hc1, Int.toNat_natCast, coreS, Value.cells, Value.oneCell', Nat.reduceAdd, Nat.reduceSub, Nat.reduceMul, Nat.reduceLeDiff, Int.reduceEq, Nat.reduceEqDiff, C4aFs21]
      refine ⟨by omega, hsm, ?_⟩
      simp only [coreS, stK_some, splice, Value.cells, Value.oneCell', Nat.reduceAdd, Nat.reduceSub, Nat.reduceMul, Nat.reduceLeDiff, Int.reduceEq, Nat.reduceEqDiff, C4aFs21]
      have hn0 := Nat.ne_of_lt (lt_of_get c0)
      have hn1 := Nat.ne_of_lt (lt_of_get c2)
      by_cases hd : day < es[k].d
      · have hp : bck acc cl es k day = 16 := by unfold bck; rw [if_neg (by simpa using hc), if_neg (by simp; omega), if_pos (by rw [bkX_at hk]; exact hd)]
        have w2 := push_old (o := .cells #[.int .i64 es[k].d, .int .i64 es[k].f, .int .i64 es[k].t, .int .i64 es[k].a] 26) c2
        simp only [hd, hn1, c2, if_false, decide_true, splice, coreS, Value.cells, Value.oneCell', Nat.reduceAdd, Nat.reduceSub, Nat.reduceMul, Nat.reduceLeDiff, Int.reduceEq, Nat.reduceEqDiff, C4aFs21]
        refine stK_abs w2 (by simp) fun h9 g9 u9 => ?_
        simp only [splice] at g9
        simp only [g9, splice, coreS, Value.cells, Value.oneCell', Nat.reduceAdd, Nat.reduceSub, Nat.reduceMul, Nat.reduceLeDiff, Int.reduceEq, Nat.reduceEqDiff, C4aFs21]
        exact bad (hp) (by omega) (u9.ext (y2.push _) (by omega))
      · have hp : bck acc cl es k day = pst acc cl es (bkE es k day) := by unfold bck; rw [if_neg (by simpa using hc), if_neg (by simp; omega), if_neg (by rw [bkX_at hk]; exact hd)]
        have hx : bkE es k day = ⟨day, es[k].t, es[k].f, es[k].a⟩ := by rw [bkE, bkX_at hk]
        have w0 := push_old (o := .cells #[.int .i64 es[k].d, .int .i64 es[k].f, .int .i64 es[k].t, .int .i64 es[k].a] 26) c0
        have w2 := push_old (o := .cells #[.int .i64 es[k].d, .int .i64 es[k].f, .int .i64 es[k].t, .int .i64 es[k].a] 26) c2
        have wx := y2.push (.cells #[.int .i64 es[k].d, .int .i64 es[k].f, .int .i64 es[k].t, .int .i64 es[k].a] 26)
        simp only [hd, hn0, hn1, c0, c2, if_false, splice, decide_false, splice, coreS, Value.cells, Value.oneCell', Nat.reduceAdd, Nat.reduceSub, Nat.reduceMul, Nat.reduceLeDiff, Int.reduceEq, Nat.reduceEqDiff, C4aFs21]
        refine CallsH.mono (post19 acc cl a n c es ⟨day, es[k].t, es[k].f, es[k].a⟩ _ (hr.ext wx) hn hl) ?_
        rintro v h6 ⟨⟨a6, n6, c6, rfl, r6, l6, z6⟩, x6⟩
        have k2 := x6.get w2
        have s6 := wx.size
        have s1 := lt_of_get c2
        simp only [k2, coreS, Value.cells, Value.oneCell', Nat.reduceAdd, Nat.reduceSub, Nat.reduceMul, Nat.reduceLeDiff, Int.reduceEq, Nat.reduceEqDiff, C4aFs21]
        refine stK_abs k2 (by simp) fun h9 g9 u9 => ?_
        simp only [splice] at g9
        simp only [g9, splice, coreS, Value.cells, Value.oneCell', Nat.reduceAdd, Nat.reduceSub, Nat.reduceMul, Nat.reduceLeDiff, Int.reduceEq, Nat.reduceEqDiff, C4aFs21]
        rw [← hx] at r6 l6 ⊢
        have eA : bckA acc cl es k day = pstA acc cl es (bkE es k day) := by rw [bckA, hp]; rfl
        have eC : bckC acc cl es k day = pstC acc cl es (bkE es k day) := by rw [bckC, hp]; rfl
        have eL : bckL acc cl es k day = pstL acc cl es (bkE es k day) := by rw [bckL, hp]; rfl
        refine ⟨⟨a6, n6, c6, by rw [eA, eC, hp], ?_, by rw [eL]; exact l6, fun p hp => by have := z6 p hp; simp at this; omega⟩, u9.ext (wx.trans x6) (by omega)⟩
        rw [eL]
        exact row_upd r6 u9 (fun p hp => by have := z6 p hp; simp at this; omega)
    · have hp : bck acc cl es i day = 2 := by unfold bck; rw [if_neg (by simpa using hc), if_pos (by omega)]
      simp only [inB_one, hi, c2, decide_false, Bool.not_false, coreS, Value.cells, Value.oneCell', Nat.reduceAdd, Nat.reduceSub, Nat.reduceMul, Nat.reduceLeDiff, Int.reduceEq, Nat.reduceEqDiff, C4aFs21]
      refine stK_abs c2 (by simp) fun h9 g9 u9 => ?_
      simp only [splice] at g9
      simp only [g9, splice, coreS, Value.cells, Value.oneCell', Nat.reduceAdd, Nat.reduceSub, Nat.reduceMul, Nat.reduceLeDiff, Int.reduceEq, Nat.reduceEqDiff, C4aFs21]
      exact bad (hp) (by omega) (u9.ext y2 (by omega))
  · have hp : bck acc cl es i day = chk acc cl es := by unfold bck; rw [if_pos hc]
    simp only [hc, hb2, decide_false, Bool.not_false, coreS, Value.cells, Value.oneCell', Nat.reduceAdd, Nat.reduceSub, Nat.reduceMul, Nat.reduceLeDiff, Int.reduceEq, Nat.reduceEqDiff, C4aFs21]
    refine stK_abs hb2 (by simp) fun h9 g9 u9 => ?_
    simp only [splice] at g9
    simp only [g9, splice, coreS, Value.cells, Value.oneCell', Nat.reduceAdd, Nat.reduceSub, Nat.reduceMul, Nat.reduceLeDiff, Int.reduceEq, Nat.reduceEqDiff, C4aFs21]
    exact bad (hp) (hc) (u9.ext y1 (by omega))
end Go.Proofs.YtepaekbjoombpaaGreatDoor
