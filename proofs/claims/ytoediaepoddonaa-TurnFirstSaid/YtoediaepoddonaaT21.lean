/- Walks: Delete, Reverse, Number, Numbered. -/
import Derived.Test.YtoediaepoddonaaT20
namespace Go.Proofs.Ytoediaepoddonaa
open Go Go.Proofs Go.Eng Go.Run Tab
set_option maxRecDepth 100000
set_option linter.unusedSimpArgs false
set_option linter.unusedVariables false
set_option maxHeartbeats 1000000
theorem appr22 {h : Eng.Heap} {er : Env} {ty : TypeId} {m0 : Nat} {x y : Operand} {b : Option Addr} {g len cap m c : Nat} {xs ys : List Int} {K : Value → Eng.Heap → Prop} (hx : ev er x = .slice (some ⟨g, 0, none⟩) len cap) (hy : ev er y = .slice b m c) (O : OwnI m0 h 3 (some ⟨g, 0, none⟩) len cap xs) (I : IntsV h b m ys) (hr : len + m ≤ cap)
    (H : ∀ h', OwnI m0 h' 3 (some ⟨g, 0, none⟩) (len + m) cap (xs ++ ys) → Upd h h' g → K (.slice (some ⟨g, 0, none⟩) (len + m) cap) h') : opSem Try.prog (.call ⟨.builtin .append, #[x, y], #[22, 22]⟩) ty er h K :=
  append_roomT Try.underlying22 Try.underlying22 inf3 sz3 hx hy O I hr H
theorem zero_if {a : Option Addr} {c : Nat} : (if (c : Int) = ((0 : Nat) : Int) then a else eltP a 0) = a := by rw [eltP_zero]; split <;> rfl
theorem delete76 (m0 g n c i : Nat) (xs : List Int) (h : Eng.Heap) (O : OwnI m0 h 3 (some ⟨g, 0, none⟩) n c xs) (hi : i < n) (hl : n ≤ 1000000) :
    CallsH Try.prog 76 #[.slice (some ⟨g, 0, none⟩) n c, .int .i64 i, .int .i64 ((i : Int) + 1)] h (fun v h' => v = .slice (some ⟨g, 0, none⟩) (n - 1) c ∧ Upd h h' g ∧ OwnI m0 h' 3 (some ⟨g, 0, none⟩) (n - 1) c (xs.eraseIdx i)) := by
  have hn := O.ln
  have hc := O.cap
  refine CallsH_of_exec Try.func76 rfl bod76 ?_
  simp only [Try.ntmps76, Try.results76, coreS, stK_some, splice, Value.cells, Value.oneCell', Nat.reduceAdd, Nat.reduceSub, Nat.reduceMul, Nat.reduceLeDiff, Int.reduceEq, Nat.reduceEqDiff, by3, inf3, sz3, Try.underlying22]
  repeat (refine And.intro (by first | omega | (rw [inK_i64]; omega) | rfl | assumption) ?_)
  refine fun _ => ?_
  refine WP_draw (by kernel_rfl) sta_eq [(0, 0), (1, 0), (2, 0), (3, 0), (4, 0), (5, 0), (6, 1), (7, 0)] (by kernel_rfl) rfl (by kernel_rfl) ?_
  have e1 : (i : Int) + 1 = ((i + 1 : Nat) : Int) := by omega
  have e2 : ((i : Int) - ((0 : Nat) : Int)).toNat = i := by omega
  have e3 : ((n : Int) - ((i + 1 : Nat) : Int)).toNat = n - (i + 1) := by omega
  have e4 : ((c : Int) - ((0 : Nat) : Int)).toNat = c := by omega
  have e5 : ((c : Int) - ((i + 1 : Nat) : Int)).toNat = c - (i + 1) := by omega
  simp only [e1, e2, e3, e4, e5, ite_self, coreS, Value.cells, Value.oneCell', Nat.reduceAdd, Nat.reduceSub, Nat.reduceMul, Nat.reduceLeDiff, Int.reduceEq, Nat.reduceEqDiff, drawS, by3, inf3, sz3, Try.underlying22]
  repeat (refine And.intro (by first | omega | (rw [inK_i64]; omega) | rfl | assumption) ?_)
  have O1 := O.take (k := i) (by omega)
  have I1 := intsV_slice (c := c) O.ints (show i + 1 ≤ n by omega) (Nat.le_refl n) hc
  rw [List.take_of_length_le (by simp; omega)] at I1
  simp only [eltP_some, Nat.zero_add] at I1
  refine appr22 rfl rfl O1 I1 (by omega) fun h2 O2 u2 => ?_
  have ex : xs.take i ++ xs.drop (i + 1) = xs.eraseIdx i := by rw [List.eraseIdx_eq_take_drop_succ]
  have el : i + (n - (i + 1)) = n - 1 := by omega
  rw [ex, el] at O2
  have e6 : ((n : Int) - ((n - 1 : Nat) : Int)).toNat = 1 := by omega
  simp only [el, hvK_eq, coreS, Value.cells, Value.oneCell', Nat.reduceAdd, Nat.reduceSub, Nat.reduceMul, Nat.reduceLeDiff, Int.reduceEq, Nat.reduceEqDiff, drawS, by3, inf3, sz3, Try.underlying22]
  repeat (refine And.intro (by first | omega | (rw [inK_i64]; omega) | rfl | assumption) ?_)
  have f6 : ¬ ((c : Int) = ((n - 1 : Nat) : Int)) := by omega
  simp only [e6, f6, coreS, Value.cells, Value.oneCell', Nat.reduceAdd, Nat.reduceSub, Nat.reduceMul, Nat.reduceLeDiff, Int.reduceEq, Nat.reduceEqDiff, by3, inf3, sz3, Try.underlying22]
  rcases O2.ok with ⟨hno, _⟩ | ⟨g2, cur, hg2, q1, q2, q3, q4, q5⟩
  · cases hno
  cases hg2
  have hb2 : h2[g]? = some (.cells cur.toList.toArray 3) := by simpa using q2
  refine clr22 rfl hb2 (by simp; omega) fun h3 g3 u3 => ?_
  simp only [coreS, Value.cells, Value.oneCell', Nat.reduceAdd, Nat.reduceSub, Nat.reduceMul, Nat.reduceLeDiff, Int.reduceEq, Nat.reduceEqDiff, by3, inf3, sz3, Try.underlying22]
  exact ⟨u2.trans u3, O2.tail hb2 g3 (Nat.le_refl _) (by simp; omega)⟩
theorem reverse77 (m0 g n c : Nat) (xs : List Int) (h : Eng.Heap) (O : OwnI m0 h 3 (some ⟨g, 0, none⟩) n c xs) (hn0 : 0 < n) (hl : n ≤ 1000000) :
    CallsH Try.prog 77 #[.slice (some ⟨g, 0, none⟩) n c] h (fun v h' => v = .tuple #[] ∧ Upd h h' g ∧ OwnI m0 h' 3 (some ⟨g, 0, none⟩) n c xs.reverse) := by
  obtain ⟨g2, tl, hg2, hm, hb, hc, hc2, hn⟩ := O.block hn0
  cases hg2
  refine CallsH_of_exec Try.func77 rfl bod77 ?_
  simp only [Try.ntmps77, Try.results77, coreS, stK_some, splice, Value.cells, Value.oneCell', Nat.reduceAdd, Nat.reduceSub, Nat.reduceMul, Nat.reduceLeDiff, Int.reduceEq, Nat.reduceEqDiff, agg3, by3, inf3, sz3, Try.underlying22]
  refine ⟨by rw [inK_i64]; omega, ?_⟩
  refine WP_loopI [2, 3, 7, 8, 9, 10, 11, 12, 13, 14, 15, 16, 17, 18, 19, 20, 21, 22, 23, 24, 25, 26, 27] (fun e h' => Upd h h' g ∧ ∃ (A M B : List Int), A.length = B.length ∧ A.length + M.length + B.length = n ∧ A ++ M.reverse ++ B = xs.reverse ∧ e 2 = .int .i64 (A.length : Nat) ∧ e 3 = .int .i64 ((n : Int) - 1 - (A.length : Nat)) ∧ h'[g]? = some (.cells (ints (A ++ M ++ B) ++ tl).toArray 3)) (fun e _ => match e 2 with | .int _ m => n - m.toNat | _ => 0) ?_ ?_
  · exact ⟨Upd.refl _ _, [], xs, [], rfl, by simp [hn], by simp, rfl, by show Value.int _ _ = Value.int _ _; simp, by simpa using hb⟩
  · rintro e h' ⟨u, A, M, B, hAB, hlen, hrev, he2, he3, hg⟩
    simp only [he2, he3, coreS, Value.cells, Value.oneCell', Nat.reduceAdd, Nat.reduceSub, Nat.reduceMul, Nat.reduceLeDiff, Int.reduceEq, Nat.reduceEqDiff, agg3, by3, inf3, sz3, Try.underlying22]
    refine ⟨fun hlt => ?_, fun hge => ?_⟩
    · obtain ⟨x, M1, rfl⟩ : ∃ x M1, M = x :: M1 := by
        cases M with
        | nil => simp at hlen; omega
        | cons x M1 => exact ⟨x, M1, rfl⟩
      obtain ⟨M2, y, rfl⟩ : ∃ M2 y, M1 = M2 ++ [y] := by
        rcases List.eq_nil_or_concat M1 with rfl | ⟨M2, y, rfl⟩
        · simp at hlen; omega
        · exact ⟨M2, y, by simp⟩
      simp only [List.length_cons, List.length_append, List.length_nil] at hlen
      have ej : (n : Int) - 1 - (A.length : Nat) = ((A.length + 1 + M2.length : Nat) : Int) := by omega
      have hg1 : h'[g]? = some (.cells (ints (A ++ x :: (M2 ++ y :: B)) ++ tl).toArray 3) := by simpa using hg
      have hg2 : h'[g]? = some (.cells (ints ((A ++ x :: M2) ++ y :: B) ++ tl).toArray 3) := by simpa using hg
      have c1 := mid_get (A := A) (B := M2 ++ y :: B) (x := x) (tl := tl)
      have c2 := mid_get (A := A ++ x :: M2) (B := B) (x := y) (tl := tl)
      have el : (A ++ x :: M2).length = A.length + 1 + M2.length := by simp; omega
      have c3 : (ints (A ++ x :: (M2 ++ y :: B)) ++ tl)[A.length + 1 + M2.length]? = some (.int .i64 y) := by
        rw [← el]; simpa using c2
      rw [ej]
      refine WP_draw (by kernel_rfl) sta_eq [(0, 0), (1, 0), (2, 3), (3, 3), (4, 0), (5, 0), (6, 0), (7, 0), (8, 0), (9, 0), (10, 0), (11, 0), (12, 0), (13, 1), (14, 0), (15, 1)] (by kernel_rfl) rfl (by kernel_rfl) ?_
      simp only [hg1, c1, c3, coreS, Value.cells, Value.oneCell', Nat.reduceAdd, Nat.reduceSub, Nat.reduceMul, Nat.reduceLeDiff, Int.reduceEq, Nat.reduceEqDiff, drawS, agg3, by3, inf3, sz3, Try.underlying22]
      repeat (refine And.intro (by first | omega | (rw [inK_i64]; omega) | rfl | assumption) ?_)
      refine stK_abs hg1 (by simp [ints_length]; omega) fun h2 g2 u2 => ?_
      rw [mid_set] at g2
      have g2' : h2[g]? = some (.cells (ints ((A ++ y :: M2) ++ y :: B) ++ tl).toArray 3) := by simpa using g2
      have el2 : (A ++ y :: M2).length = A.length + 1 + M2.length := by simp; omega
      simp only [g2', coreS, Value.cells, Value.oneCell', Nat.reduceAdd, Nat.reduceSub, Nat.reduceMul, Nat.reduceLeDiff, Int.reduceEq, Nat.reduceEqDiff, drawS, agg3, by3, inf3, sz3, Try.underlying22]
      repeat (refine And.intro (by first | omega | (rw [inK_i64]; omega) | rfl | assumption) ?_)
      refine stK_abs g2' (by simp [ints_length]; omega) fun h3 g3 u3 => ?_
      rw [← el2, mid_set] at g3
      simp only [hvK_eq, coreS, Value.cells, Value.oneCell', Nat.reduceAdd, Nat.reduceSub, Nat.reduceMul, Nat.reduceLeDiff, Int.reduceEq, Nat.reduceEqDiff, drawS, agg3, by3, inf3, sz3, Try.underlying22]
      refine ⟨by rw [inK_i64]; omega, by rw [inK_i64]; omega, roundK_mk (by kernel_rfl) ⟨(u.trans u2).trans u3, A ++ [y], M2, x :: B, by simp; omega, by simp; omega, ?_, ?_, ?_, by simpa using g3⟩ ?_⟩
      · rw [← hrev]; simp
      · show Value.int _ _ = Value.int _ _
        simp
      · show Value.int _ _ = Value.int _ _
        congr 1
        simp
        omega
      · show n - ((A.length : Int) + 1).toNat < n - (A.length : Int).toNat
        omega
    · have hM : M.length ≤ 1 := by omega
      have hMr : M.reverse = M := by
        match M, hM with
        | [], _ => rfl
        | [x], _ => rfl
      rw [hMr] at hrev
      rw [hrev] at hg
      refine ⟨u, ?_⟩
      have hl2 : xs.reverse.length = n := by simp [hn]
      have := OwnI.of_block (cap := c) hm hg (by omega) (by omega)
      rw [hl2] at this
      exact this
theorem sorted_perm {ys : List Int} {n : Nat} (hp : ys.Perm (zs (List.range n))) (hs : srt ys) : ys = zs (List.range n) := by
  refine List.Perm.eq_of_pairwise (le := fun a b => a ≤ b) (fun a b _ _ h1 h2 => by omega) hs ?_ hp
  have : (List.range n).Pairwise (· < ·) := List.pairwise_lt_range
  exact List.pairwise_map.2 (this.imp fun h => by omega)
end Go.Proofs.Ytoediaepoddonaa
