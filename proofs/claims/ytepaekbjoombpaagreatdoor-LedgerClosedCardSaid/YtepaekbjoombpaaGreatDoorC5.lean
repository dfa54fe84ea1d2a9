/- Walks: books that are equal. -/
import Derived.Test.YtepaekbjoombpaaGreatDoorA6
import Derived.Test.YtepaekbjoombpaaGreatDoorOk
import Derived.Test.YtepaekbjoombpaaGreatDoorEngA
namespace Go.Proofs.YtepaekbjoombpaaGreatDoor
open Go Go.Proofs Go.Eng Go.Run Tab
set_option maxRecDepth 100000
set_option linter.unusedSimpArgs false
set_option linter.unusedVariables false
set_option maxHeartbeats 2000000
set_option linter.defProp false
def C5Fs27 := (And.intro (And.intro (And.intro @agg22 (And.intro @agg26 @agg3)) (And.intro (And.intro @by26 @fo24_0) (And.intro @fo24_1 @fo24_2))) (And.intro (And.intro @inf22 (And.intro @inf26 @inf3)) (And.intro (And.intro @sz22 @sz26) (And.intro @sz3 @Tryz.underlying22))))
theorem neEnQ {er : Env} {h : Eng.Heap} {ty yt : TypeId} {x y : Operand} {xs ys : List Int} (h4 : xs.length = 4) (h4' : ys.length = 4) {K : Value → Eng.Heap → Prop} (hx : ev er x = .agg (Eng.ints xs).toArray) (hy : ev er y = .agg (Eng.ints ys).toArray) (H : K (.bool (!decide (xs = ys))) h) : opQS Tryz.prog EqH (.binOp .neq 26 x y yt) ty er h K := by
  unfold opQS
  have hl : xs.length = ys.length := by omega
  have hfl : ((Pt.pr.ty 26).getD ⟨0, 0, .any, .other, []⟩).fl = List.replicate 4 .i := by kernel_rfl
  refine ⟨.bool (!decide (xs = ys)), fun h' hr => ?_, H⟩
  refine eqAggW Pt.ok (ti := (Pt.pr.ty 26).getD ⟨0, 0, .any, .other, []⟩) (by kernel_rfl) (a := .agg (xs.map (T.int .i64))) (b := .agg (ys.map (T.int .i64))) (r := decide (xs = ys)) ?_ ?_ ?_ (.inr rfl) hx hy ⟨by simp, rfl⟩
  · simp only [VR]; exact ⟨_, rfl, by simpa using vl_ints xs⟩
  · simp only [VR]; exact ⟨_, rfl, by simpa using vl_ints ys⟩
  · have := beqF_ints xs ys hl
    unfold eqAgg
    rw [hfl]
    rw [h4] at this
    simpa [List.replicate_succ] using this
theorem binW_agg {op : BinOp} {a b : Array Value} {h : Eng.Heap} {K : Value → Eng.Heap → Prop} {F : Prop} : binW op (.agg a) (.agg b) h K F = F := by unfold binW; rfl
theorem en_eq {a b : En} : [a.d, a.f, a.t, a.a] = [b.d, b.f, b.t, b.a] ↔ a = b := by cases a; cases b; simp
theorem same27 (acc cl acc2 cl2 : Int) (a b : Option Addr) (n c m k : Nat) (es fs : List En) (h : Eng.Heap) (hr : Row h a (ensV es)) (hs : Row h b (ensV fs)) (hn : n = es.length) (hm : m = fs.length) (hl : n ≤ 1000000) (hl2 : m ≤ 1000000) :
    CallsH Tryz.prog 27 #[.agg #[.int .i64 acc, .int .i64 cl, .slice a n c], .agg #[.int .i64 acc2, .int .i64 cl2, .slice b m k]] h (fun v h' => v = .bool (decide (acc = acc2 ∧ cl = cl2 ∧ es = fs)) ∧ Ext h h') := by
  refine CallsH_of_exec Tryz.func27 rfl bod27 ?_
  simp only [Tryz.ntmps27, Tryz.results27, coreS, stK_some, splice, Value.cells, Value.oneCell', Nat.reduceAdd, Nat.reduceSub, Nat.reduceMul, Nat.reduceLeDiff, Int.reduceEq, Nat.reduceEqDiff, C5Fs27]
  have q0 := pn0 (h := h) (o := .cells #[.int .i64 acc, .int .i64 cl, .slice a n c] 24) (o' := .cells #[.int .i64 acc2, .int .i64 cl2, .slice b m k] 24)
  have q1 := pn1 (h := h) (o := .cells #[.int .i64 acc, .int .i64 cl, .slice a n c] 24) (o' := .cells #[.int .i64 acc2, .int .i64 cl2, .slice b m k] 24)
  have x0 : Ext h ((h.push (.cells #[.int .i64 acc, .int .i64 cl, .slice a n c] 24)).push (.cells #[.int .i64 acc2, .int .i64 cl2, .slice b m k] 24)) := ((Ext.refl h).push _).push _
  obtain ⟨h1, hh1⟩ : ∃ h1, h1 = (h.push (.cells #[.int .i64 acc, .int .i64 cl, .slice a n c] 24)).push (.cells #[.int .i64 acc2, .int .i64 cl2, .slice b m k] 24) := ⟨_, rfl⟩
  by_cases ha : acc = acc2
  · by_cases hc : cl = cl2
    · by_cases hnm : (n : Int) = m
      · simp only [ha, hc, hnm, decide_true, Bool.not_true, coreS, Value.cells, Value.oneCell', Nat.reduceAdd, Nat.reduceSub, Nat.reduceMul, Nat.reduceLeDiff, Int.reduceEq, Nat.reduceEqDiff, C5Fs27]
        subst ha hc
        obtain rfl : n = m := by omega
        rw [← hh1]
        rw [← hh1] at q0 q1 x0
        clear hh1
        refine WP_loopI [4, 5, 27, 28, 29, 30, 31, 32, 33, 34, 35, 36, 37, 38, 39, 40, 41, 42, 43, 44] (fun g h' => h' = h1 ∧ ∃ i : Nat, i ≤ n ∧ g 5 = .int .i64 i ∧ ∀ j (hj : j < i) (h1 : j < es.length) (h2 : j < fs.length), es[j] = fs[j]) (fun g _ => match g 5 with | .int _ m => n - m.toNat | _ => 0) ⟨rfl, 0, by omega, rfl, fun j hj => by omega⟩ ?_
        rintro g h' ⟨rfl, i, hin, hg, hno⟩
        by_cases hi : i < n
        · have hsm : a.isSome = true := hr.isSome (by rw [ensV_length]; omega)
          have hsm2 : b.isSome = true := hs.isSome (by rw [ensV_length]; omega)
          have hi1 : i < es.length := by omega
          have hi2 : i < fs.length := by omega
          simp only [hg, q0, coreS, Value.cells, Value.oneCell', Nat.reduceAdd, Nat.reduceSub, Nat.reduceMul, Nat.reduceLeDiff, Int.reduceEq, Nat.reduceEqDiff, C5Fs27]
          refine ⟨fun _ => ?_, fun hge => absurd hge (by omega)⟩
          refine WP_draw (by kernel_rfl) sta_eq [(0, 0), (1, 0), (2, 0), (3, 0), (4, 0), (5, 0), (6, 0), (7, 0), (8, 0), (9, 0), (10, 0)] (by kernel_rfl) rfl (by kernel_rfl) ?_
          simp only [hg, q0, q1, rowE (hr.ext x0) hi1, rowE (hs.ext x0) hi2, Int.toNat_natCast, coreS, Value.cells, Value.oneCell', Nat.reduceAdd, Nat.reduceSub, Nat.reduceMul, Nat.reduceLeDiff, Int.reduceEq, Nat.reduceEqDiff, drawS, C5Fs27]
          repeat (refine And.intro (by first | omega | (rw [inK_i64]; omega) | rfl | assumption) ?_)
          refine neEnQ (xs := [es[i].d, es[i].f, es[i].t, es[i].a]) (ys := [fs[i].d, fs[i].f, fs[i].t, fs[i].a]) rfl rfl rfl rfl ?_
          by_cases heq : es[i] = fs[i]
          · simp only [heq, decide_true, Bool.not_true, hvK_eq, coreS, Value.cells, Value.oneCell', Nat.reduceAdd, Nat.reduceSub, Nat.reduceMul, Nat.reduceLeDiff, Int.reduceEq, Nat.reduceEqDiff, drawS, C5Fs27]
            refine ⟨by rw [inK_i64]; omega, roundK_mk (by kernel_rfl) ⟨rfl, i + 1, by omega, rfl, fun j hj h1 h2 => ?_⟩ ?_⟩
            · by_cases hji : j = i
              · subst hji; exact heq
              · exact hno j (by omega) h1 h2
            · show n - ((i : Int) + 1).toNat < n - (i : Int).toNat
              omega
          · have hne : ¬ es = fs := fun hh => heq (by subst hh; rfl)
            have hne2 : ¬ ([es[i].d, es[i].f, es[i].t, es[i].a] = [fs[i].d, fs[i].f, fs[i].t, fs[i].a]) := fun hh => heq (en_eq.1 hh)
            simp only [hne2, decide_false, Bool.not_false, hvK_eq, coreS, Value.cells, Value.oneCell', Nat.reduceAdd, Nat.reduceSub, Nat.reduceMul, Nat.reduceLeDiff, Int.reduceEq, Nat.reduceEqDiff, drawS, C5Fs27]
            refine ⟨by simp [hne], x0⟩
        · have hes : es = fs := List.ext_getElem (by omega) fun j h1 h2 => hno j (by omega) h1 h2
          simp only [hg, q0, coreS, Value.cells, Value.oneCell', Nat.reduceAdd, Nat.reduceSub, Nat.reduceMul, Nat.reduceLeDiff, Int.reduceEq, Nat.reduceEqDiff, C5Fs27]
          refine ⟨fun hlt => absurd hlt (by omega), fun _ => ⟨by simp [hes], x0⟩⟩
      · have hne : ¬ (acc = acc2 ∧ cl = cl2 ∧ es = fs) := fun hh => hnm (by rw [hn, hm, hh.2.2])
        simp only [hne, decide_false]
        simp only [ha, hc, hnm, decide_true, decide_false, Bool.not_true, Bool.not_false, coreS, Value.cells, Value.oneCell', Nat.reduceAdd, Nat.reduceSub, Nat.reduceMul, Nat.reduceLeDiff, Int.reduceEq, Nat.reduceEqDiff, C5Fs27]
        all_goals exact ((Ext.refl h).push _).push _
    · have hne : ¬ (acc = acc2 ∧ cl = cl2 ∧ es = fs) := fun hh => hc hh.2.1
      simp only [hne, decide_false]
      simp only [ha, hc, decide_true, decide_false, Bool.not_true, Bool.not_false, coreS, Value.cells, Value.oneCell', Nat.reduceAdd, Nat.reduceSub, Nat.reduceMul, Nat.reduceLeDiff, Int.reduceEq, Nat.reduceEqDiff, C5Fs27]
      all_goals exact ((Ext.refl h).push _).push _
  · have hne : ¬ (acc = acc2 ∧ cl = cl2 ∧ es = fs) := fun hh => ha hh.1
    simp only [hne, decide_false]
    simp only [ha, decide_true, decide_false, Bool.not_true, Bool.not_false, coreS, Value.cells, Value.oneCell', Nat.reduceAdd, Nat.reduceSub, Nat.reduceMul, Nat.reduceLeDiff, Int.reduceEq, Nat.reduceEqDiff, C5Fs27]
    all_goals exact ((Ext.refl h).push _).push _
end Go.Proofs.YtepaekbjoombpaaGreatDoor
