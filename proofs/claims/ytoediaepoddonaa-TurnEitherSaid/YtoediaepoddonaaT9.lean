/- Walks: sorting of twelve numbers or fewer. -/
import Derived.Test.YtoediaepoddonaaT6
import Derived.Test.YtoediaepoddonaaEngA
namespace Go.Proofs.Ytoediaepoddonaa
open Go Go.Proofs Go.Eng Tab
set_option maxRecDepth 100000
set_option linter.unusedSimpArgs false
set_option linter.unusedVariables false
set_option maxHeartbeats 1000000
theorem isNaN125 (x : Int) (h : Heap) : CallsH Try.prog 125 #[.int .i64 x] h (fun v h' => v = .bool false ∧ h' = h) := by
  refine CallsH_of_exec Try.func125 rfl bod125 ?_
  simp only [Try.ntmps125, Try.results125, coreS, stK_some, splice, Value.cells, Value.oneCell', Nat.reduceAdd, Nat.reduceSub, Nat.reduceMul, Nat.reduceLeDiff, Int.reduceEq, Nat.reduceEqDiff]
  simp
theorem less118 (x y : Int) (h : Heap) : CallsH Try.prog 118 #[.int .i64 x, .int .i64 y] h (fun v h' => v = .bool (decide (x < y)) ∧ h' = h) := by
  refine CallsH_of_exec Try.func118 rfl bod118 ?_
  simp only [Try.ntmps118, Try.results118, coreS, stK_some, splice, Value.cells, Value.oneCell', Nat.reduceAdd, Nat.reduceSub, Nat.reduceMul, Nat.reduceLeDiff, Int.reduceEq, Nat.reduceEqDiff]
  refine CallsH.mono (isNaN125 _ _) ?_
  rintro v h1 ⟨rfl, rfl⟩
  simp only [coreS, Value.cells, Value.oneCell', Nat.reduceAdd, Nat.reduceSub, Nat.reduceMul, Nat.reduceLeDiff, Int.reduceEq, Nat.reduceEqDiff]
theorem mid_get {A B : List Int} {x : Int} {tl : List Value} : (ints (A ++ x :: B) ++ tl)[A.length]? = some (.int .i64 x) := by
  rw [List.getElem?_append_left (by simp [ints_length]), ints_getElem? _ _ (by simp)]
  simp [List.getD]
theorem mid_get' {A B : List Int} {y x : Int} {tl : List Value} : (ints (A ++ y :: x :: B) ++ tl)[A.length + 1]? = some (.int .i64 x) := by
  rw [List.getElem?_append_left (by simp [ints_length]), ints_getElem? _ _ (by simp)]
  simp [List.getD]
theorem mid_set {A B : List Int} {x v : Int} {tl : List Value} : splice (ints (A ++ x :: B) ++ tl) A.length [.int .i64 v] = ints (A ++ v :: B) ++ tl := by
  rw [splice_one _ _ _ (by simp [ints_length]; omega), List.set_append_left _ _ (by simp [ints_length]), ints_set]
  simp
theorem mid_set' {A B : List Int} {y x v : Int} {tl : List Value} : splice (ints (A ++ y :: x :: B) ++ tl) (A.length + 1) [.int .i64 v] = ints (A ++ y :: v :: B) ++ tl := by
  have := mid_set (A := A ++ [y]) (B := B) (x := x) (v := v) (tl := tl)
  simpa using this
def srt (l : List Int) : Prop := l.Pairwise (· ≤ ·)
theorem srt_mid {A B : List Int} {y : Int} (h : srt (A ++ [y] ++ B)) : srt (A ++ y :: B) := by simpa using h
theorem isort112 (g c n : Nat) (xs : List Int) (tl : List Value) (h : Heap) (hb : h[g]? = some (.cells (ints xs ++ tl).toArray 3)) (hn : n = xs.length) (hl : n ≤ 1000000) :
    CallsH Try.prog 112 #[.slice (some ⟨g, 0, none⟩) n c, .int .i64 0, .int .i64 n] h (fun v h' => v = .tuple #[] ∧ Upd h h' g ∧ ∃ ys, ys.Perm xs ∧ srt ys ∧ h'[g]? = some (.cells (ints ys ++ tl).toArray 3)) := by
  refine CallsH_of_exec Try.func112 rfl bod112 ?_
  simp only [Try.ntmps112, Try.results112, coreS, stK_some, splice, Value.cells, Value.oneCell', Nat.reduceAdd, Nat.reduceSub, Nat.reduceMul, Nat.reduceLeDiff, Int.reduceEq, Nat.reduceEqDiff, agg3, by3, inf3, sz3, Try.underlying22]
  refine ⟨by rw [inK_i64]; omega, ?_⟩
  refine WP_loopI [6, 7, 10, 11, 12, 13, 14, 15, 16, 17, 18, 19, 20, 21, 22, 23, 24, 25, 26, 27, 28, 29, 30, 31, 32, 33, 34, 35, 36, 37, 38, 39, 40, 41, 42, 43, 44, 45, 46, 47, 48] (fun e h' => Upd h h' g ∧ ∃ i : Nat, 1 ≤ i ∧ (i ≤ n ∨ n = 0 ∧ i = 1) ∧ e 6 = .int .i64 i ∧ ∃ ys zs, ys.length + zs.length = n ∧ (ys ++ zs).Perm xs ∧ srt ys ∧ (ys.length = i ∨ n = 0) ∧ h'[g]? = some (.cells (ints (ys ++ zs) ++ tl).toArray 3)) (fun e _ => match e 6 with | .int _ m => n + 1 - m.toNat | _ => 0) ?_ ?_
  · refine ⟨⟨rfl, fun _ _ => rfl⟩, 1, by omega, by omega, rfl, xs.take 1, xs.drop 1, by simp; omega, by rw [List.take_append_drop], ?_, by simp; omega, by rw [List.take_append_drop]; exact hb⟩
    cases xs with
    | nil => simp [srt]
    | cons x xs => simp [srt]
  · rintro e h' ⟨hu, i, hi1, hi2, he, ys, zs, hl1, hp, hs, hyl, hg⟩
    simp only [he, coreS, Value.cells, Value.oneCell', Nat.reduceAdd, Nat.reduceSub, Nat.reduceMul, Nat.reduceLeDiff, Int.reduceEq, Nat.reduceEqDiff, agg3, by3, inf3, sz3, Try.underlying22]
    refine ⟨fun hlt => ?_, fun hge => ?_⟩
    · have hin : i < n := by omega
      have hyi : ys.length = i := by omega
      obtain ⟨z, zs, rfl⟩ : ∃ z zs', zs = z :: zs' := by
        cases zs with
        | nil => simp at hl1; omega
        | cons z zs => exact ⟨z, zs, rfl⟩
      refine WP_loopI [7, 16, 17, 18, 19, 20, 21, 22, 23, 24, 25, 26, 27, 28, 29, 30, 31, 32, 33, 34, 35, 36, 37, 38, 39, 40, 41, 42, 43, 44, 45, 46, 47, 48] (fun e h' => Upd h h' g ∧ ∃ A B, e 7 = .int .i64 (A.length : Nat) ∧ A.length + B.length = i ∧ (A ++ z :: (B ++ zs)).Perm xs ∧ srt (A ++ B) ∧ (∀ b ∈ B, z ≤ b) ∧ h'[g]? = some (.cells (ints (A ++ z :: (B ++ zs)) ++ tl).toArray 3)) (fun e _ => match e 7 with | .int _ m => m.toNat | _ => 0) ?_ ?_
      · exact ⟨hu, ys, [], by simp [hyi], by simp [hyi], by simpa using hp, by simpa using hs, by simp, by simpa using hg⟩
      · rintro e h2 ⟨hu2, A, B, he7, hAB, hp2, hs2, hz, hg2⟩
        simp only [he7, coreS, Value.cells, Value.oneCell', Nat.reduceAdd, Nat.reduceSub, Nat.reduceMul, Nat.reduceLeDiff, Int.reduceEq, Nat.reduceEqDiff, agg3, by3, inf3, sz3, Try.underlying22]
        refine WP_draw (by kernel_rfl) sta_eq [(0, 0), (1, 0), (2, 0), (3, 0), (4, 0), (5, 0), (6, 0), (7, 0), (8, 0), (9, 0), (10, 0), (11, 0), (12, 0), (13, 0), (14, 0)] (by kernel_rfl) rfl (by kernel_rfl) ?_
        rcases List.eq_nil_or_concat A with rfl | ⟨A, y, rfl⟩
        · have f0 : ¬ ((0 : Int) < ((0 : Nat) : Int)) := by omega
          simp only [List.length_nil, f0, decide_false, coreS, Value.cells, Value.oneCell', Nat.reduceAdd, Nat.reduceSub, Nat.reduceMul, Nat.reduceLeDiff, Int.reduceEq, Nat.reduceEqDiff, drawS, agg3, by3, inf3, sz3, Try.underlying22]
          refine ⟨by rw [inK_i64]; omega, roundK_mk (by kernel_rfl) ⟨hu2, i + 1, by omega, by omega, rfl, z :: B, zs, ?_, by simpa using hp2, ?_, ?_, by simpa using hg2⟩ ?_⟩
          · simp at hl1 hAB ⊢; omega
          · exact List.pairwise_cons.2 ⟨hz, by simpa [srt] using hs2⟩
          · left; simp at hAB ⊢; omega
          · show n + 1 - ((i : Int) + 1).toNat < n + 1 - (i : Int).toNat
            omega
        · have hg3 : h2[g]? = some (.cells (ints (A ++ y :: z :: (B ++ zs)) ++ tl).toArray 3) := by simpa using hg2
          have ea : (A ++ [y]).length = A.length + 1 := by simp
          have eb : ((A.length + 1 : Nat) : Int) - 1 = (A.length : Int) := by omega
          have hAi : A.length + 1 + B.length = i := by simpa using hAB
          have ez : (decide ((0 : Int) < ((A.length + 1 : Nat) : Int))) = true := by simp
          have f1 : (0 : Int) < ((A.length + 1 : Nat) : Int) := by omega
          simp only [List.concat_eq_append, ea, f1, decide_true, eb, hg3, mid_get, mid_get', coreS, Value.cells, Value.oneCell', Nat.reduceAdd, Nat.reduceSub, Nat.reduceMul, Nat.reduceLeDiff, Int.reduceEq, Nat.reduceEqDiff, drawS, agg3, by3, inf3, sz3, Try.underlying22]
          repeat (refine And.intro (by first | omega | (rw [inK_i64]; omega) | rfl | assumption) ?_)
          refine cQ_eq _ (less118 z y _) ?_
          have hsy : srt (A ++ y :: B) := by simpa [srt] using hs2
          by_cases hzy : z < y
          · simp only [hzy, decide_true, coreS, Value.cells, Value.oneCell', Nat.reduceAdd, Nat.reduceSub, Nat.reduceMul, Nat.reduceLeDiff, Int.reduceEq, Nat.reduceEqDiff, drawS, agg3, by3, inf3, sz3, Try.underlying22]
            refine WP_draw (by kernel_rfl) sta_eq [(0, 0), (1, 0), (2, 3), (3, 3), (4, 3), (5, 0), (6, 0), (7, 0), (8, 0), (9, 0), (10, 0), (11, 0), (12, 0), (13, 0), (14, 0), (15, 1), (16, 0), (17, 1)] (by kernel_rfl) rfl (by kernel_rfl) ?_
            simp only [eb, hg3, mid_get, mid_get', coreS, Value.cells, Value.oneCell', Nat.reduceAdd, Nat.reduceSub, Nat.reduceMul, Nat.reduceLeDiff, Int.reduceEq, Nat.reduceEqDiff, drawS, agg3, by3, inf3, sz3, Try.underlying22]
            repeat (refine And.intro (by first | omega | (rw [inK_i64]; omega) | rfl | assumption) ?_)
            refine stK_abs hg3 (by simp [ints_length]; omega) fun h3 g3 u3 => ?_
            rw [mid_set'] at g3
            simp only [eb, g3, coreS, Value.cells, Value.oneCell', Nat.reduceAdd, Nat.reduceSub, Nat.reduceMul, Nat.reduceLeDiff, Int.reduceEq, Nat.reduceEqDiff, drawS, agg3, by3, inf3, sz3, Try.underlying22]
            refine ⟨by omega, rfl, ?_⟩
            refine stK_abs g3 (by simp [ints_length]; omega) fun h4 g4 u4 => ?_
            rw [mid_set] at g4
            simp only [hvK_eq, coreS, Value.cells, Value.oneCell', Nat.reduceAdd, Nat.reduceSub, Nat.reduceMul, Nat.reduceLeDiff, Int.reduceEq, Nat.reduceEqDiff, drawS, agg3, by3, inf3, sz3, Try.underlying22]
            rw [eb]
            refine ⟨by rw [inK_i64]; omega, roundK_mk (by kernel_rfl) ⟨(hu2.trans u3).trans u4, A, y :: B, rfl, by simp; omega, ?_, hsy, ?_, by simpa using g4⟩ ?_⟩
            · refine List.Perm.trans ?_ hp2
              simp
              exact List.Perm.append_left A (List.Perm.swap _ _ _)
            · intro b hb
              rcases List.mem_cons.1 hb with rfl | hb
              · omega
              · exact hz b hb
            · show (A.length : Int).toNat < ((A.length + 1 : Nat) : Int).toNat
              omega
          · simp only [hzy, decide_false, hvK_eq, coreS, Value.cells, Value.oneCell', Nat.reduceAdd, Nat.reduceSub, Nat.reduceMul, Nat.reduceLeDiff, Int.reduceEq, Nat.reduceEqDiff, drawS, agg3, by3, inf3, sz3, Try.underlying22]
            refine ⟨by rw [inK_i64]; omega, roundK_mk (by kernel_rfl) ⟨hu2, i + 1, by omega, by omega, rfl, A ++ y :: z :: B, zs, ?_, by simpa using hp2, ?_, ?_, by simpa using hg2⟩ ?_⟩
            · simp at hl1 ⊢; omega
            · have h1 := List.pairwise_append.1 hsy
              have h2 := List.pairwise_cons.1 h1.2.1
              refine List.pairwise_append.2 ⟨h1.1, List.pairwise_cons.2 ⟨?_, List.pairwise_cons.2 ⟨hz, h2.2⟩⟩, ?_⟩
              · intro b hb
                rcases List.mem_cons.1 hb with rfl | hb
                · omega
                · exact h2.1 b hb
              · intro a ha b hb
                have hy := h1.2.2 a ha y (by simp)
                rcases List.mem_cons.1 hb with rfl | hb
                · exact hy
                · rcases List.mem_cons.1 hb with rfl | hb
                  · omega
                  · exact h1.2.2 a ha b (by simp [hb])
            · left; simp; omega
            · show n + 1 - ((i : Int) + 1).toNat < n + 1 - (i : Int).toNat
              omega
    · have hz : zs = [] := by
        apply List.length_eq_zero_iff.1
        omega
      subst hz
      rw [List.append_nil] at hp hg
      exact ⟨hu, ys, hp, hs, hg⟩
end Go.Proofs.Ytoediaepoddonaa
