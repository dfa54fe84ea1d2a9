/- Walks: lists that are equal, sums, balances. -/
import Derived.Test.YtepaekbjoombpaaGreatDoorBL
import Derived.Test.YtepaekbjoombpaaGreatDoorEngA
namespace Go.Proofs.YtepaekbjoombpaaGreatDoor
open Go Go.Proofs Go.Eng Tab
set_option maxRecDepth 100000
set_option linter.unusedSimpArgs false
set_option linter.unusedVariables false
set_option maxHeartbeats 1000000
set_option linter.defProp false
def B1Fs32 := (And.intro (And.intro @agg2 @by2) (And.intro @inf2 (And.intro @sz2 @Tryz.underlying37)))
def B1Fs33 := (And.intro (And.intro @agg3 @by3) (And.intro @inf3 (And.intro @sz3 @Tryz.underlying40)))
def B1Fs79 := (And.intro (And.intro (And.intro (And.intro @agg104 (And.intro @agg2 @agg22)) (And.intro @agg26 (And.intro @agg3 @by26))) (And.intro (And.intro @fo150_0 (And.intro @fo24_2 @fo26_0)) (And.intro (And.intro @fo26_1 @fo26_2) (And.intro @fo26_3 @inf104)))) (And.intro (And.intro (And.intro @inf2 (And.intro @inf22 @inf26)) (And.intro (And.intro @inf3 @sz104) (And.intro @sz2 @sz22))) (And.intro (And.intro @sz26 (And.intro @sz3 @zero104)) (And.intro (And.intro @zero26 @Tryz.underlying22) (And.intro @Tryz.underlying37 @Tryz.underlying104)))))
def B1Fs107 := (And.intro (And.intro @agg2 @inf2) (And.intro @sz2 @Tryz.underlying104))
theorem longs32 (a b : Option Addr) (n c m k : Nat) (xs ys : List Int) (h : Eng.Heap) (hx : IntsV h a n xs) (hy : IntsV h b m ys) (hl : n ≤ 1000000) (hm : m ≤ 1000000) :
    CallsH Tryz.prog 32 #[.slice a n c, .slice b m k] h (fun v h' => v = .bool (decide (xs = ys)) ∧ h' = h) := by
  have hn := hx.len
  have hn2 := hy.len
  refine CallsH_of_exec Tryz.func32 rfl bod32 ?_
  simp only [Tryz.ntmps32, Tryz.results32, coreS, stK_some, splice, Value.cells, Value.oneCell', Nat.reduceAdd, Nat.reduceSub, Nat.reduceMul, Nat.reduceLeDiff, Int.reduceEq, Nat.reduceEqDiff, B1Fs32]
  by_cases he : n = m
  · subst he
    simp only [decide_true, Bool.not_true, coreS, Value.cells, Value.oneCell', Nat.reduceAdd, Nat.reduceSub, Nat.reduceMul, Nat.reduceLeDiff, Int.reduceEq, Nat.reduceEqDiff, B1Fs32]
    refine WP_loopI [4, 5, 11, 12, 13, 14, 15, 16, 17, 18, 19, 20, 21, 22, 23, 24, 25] (fun g h' => h' = h ∧ ∃ i : Nat, i ≤ n ∧ g 5 = .int .i64 i ∧ ∀ j < i, xs.getD j 0 = ys.getD j 0) (fun g _ => match g 5 with | .int _ m => n - m.toNat | _ => 0) ⟨rfl, 0, by omega, rfl, fun j hj => by omega⟩ ?_
    rintro g h' ⟨rfl, i, hin, hg, hno⟩
    by_cases hi : i < n
    · simp only [hg, coreS, Value.cells, Value.oneCell', Nat.reduceAdd, Nat.reduceSub, Nat.reduceMul, Nat.reduceLeDiff, Int.reduceEq, Nat.reduceEqDiff, B1Fs32]
      refine ⟨fun _ => ?_, fun hge => absurd hge (by omega)⟩
      refine WP_draw (by kernel_rfl) sta_eq [(0, 0), (1, 0), (2, 0), (3, 0), (4, 0), (5, 0), (6, 0), (7, 0), (8, 0)] (by kernel_rfl) rfl (by kernel_rfl) ?_
      simp only [hg, hx.cell (j := i) (by omega), hy.cell (j := i) (by omega), Int.toNat_natCast, hvK_eq, coreS, Value.cells, Value.oneCell', Nat.reduceAdd, Nat.reduceSub, Nat.reduceMul, Nat.reduceLeDiff, Int.reduceEq, Nat.reduceEqDiff, drawS, B1Fs32]
      repeat (refine And.intro (by first | omega | (rw [inK_i64]; omega) | rfl | assumption | (exact hx.isSome (by omega)) | (exact hy.isSome (by omega))) ?_)
      by_cases hxy : xs.getD i 0 = ys.getD i 0
      · simp only [hxy, decide_true, Bool.not_true, coreS, Value.cells, Value.oneCell', Nat.reduceAdd, Nat.reduceSub, Nat.reduceMul, Nat.reduceLeDiff, Int.reduceEq, Nat.reduceEqDiff, B1Fs32]
        refine ⟨by rw [inK_i64]; omega, roundK_mk (by kernel_rfl) ⟨rfl, i + 1, by omega, rfl, fun j hj => ?_⟩ ?_⟩
        · by_cases hji : j = i
          · subst hji; exact hxy
          · exact hno j (by omega)
        · show n - ((i : Int) + 1).toNat < n - (i : Int).toNat
          omega
      · have hne : ¬ xs = ys := fun hh => hxy (by rw [hh])
        simp only [hxy, decide_false, Bool.not_false, coreS, Value.cells, Value.oneCell', Nat.reduceAdd, Nat.reduceSub, Nat.reduceMul, Nat.reduceLeDiff, Int.reduceEq, Nat.reduceEqDiff, B1Fs32]
        simp [hne]
    · have hxy : xs = ys := ext_getD (by omega) fun j hj => hno j (by omega)
      simp only [hg, coreS, Value.cells, Value.oneCell', Nat.reduceAdd, Nat.reduceSub, Nat.reduceMul, Nat.reduceLeDiff, Int.reduceEq, Nat.reduceEqDiff, B1Fs32]
      refine ⟨fun hlt => absurd hlt (by omega), fun _ => ?_⟩
      simp [hxy]
  · have hne : ¬ xs = ys := fun hh => he (by rw [hn, hn2, hh])
    have he2 : ¬ (n : Int) = m := by omega
    simp only [he2, decide_false, Bool.not_false, coreS, Value.cells, Value.oneCell', Nat.reduceAdd, Nat.reduceSub, Nat.reduceMul, Nat.reduceLeDiff, Int.reduceEq, Nat.reduceEqDiff, B1Fs32]
    simp [hne]
theorem ints33 (a b : Option Addr) (n c m k : Nat) (xs ys : List Int) (h : Eng.Heap) (hx : IntsV h a n xs) (hy : IntsV h b m ys) (hl : n ≤ 1000000) (hm : m ≤ 1000000) :
    CallsH Tryz.prog 33 #[.slice a n c, .slice b m k] h (fun v h' => v = .bool (decide (xs = ys)) ∧ h' = h) := by
  have hn := hx.len
  have hn2 := hy.len
  refine CallsH_of_exec Tryz.func33 rfl bod33 ?_
  simp only [Tryz.ntmps33, Tryz.results33, coreS, stK_some, splice, Value.cells, Value.oneCell', Nat.reduceAdd, Nat.reduceSub, Nat.reduceMul, Nat.reduceLeDiff, Int.reduceEq, Nat.reduceEqDiff, B1Fs33]
  by_cases he : n = m
  · subst he
    simp only [decide_true, Bool.not_true, coreS, Value.cells, Value.oneCell', Nat.reduceAdd, Nat.reduceSub, Nat.reduceMul, Nat.reduceLeDiff, Int.reduceEq, Nat.reduceEqDiff, B1Fs33]
    refine WP_loopI [4, 5, 11, 12, 13, 14, 15, 16, 17, 18, 19, 20, 21, 22, 23, 24, 25] (fun g h' => h' = h ∧ ∃ i : Nat, i ≤ n ∧ g 5 = .int .i64 i ∧ ∀ j < i, xs.getD j 0 = ys.getD j 0) (fun g _ => match g 5 with | .int _ m => n - m.toNat | _ => 0) ⟨rfl, 0, by omega, rfl, fun j hj => by omega⟩ ?_
    rintro g h' ⟨rfl, i, hin, hg, hno⟩
    by_cases hi : i < n
    · simp only [hg, coreS, Value.cells, Value.oneCell', Nat.reduceAdd, Nat.reduceSub, Nat.reduceMul, Nat.reduceLeDiff, Int.reduceEq, Nat.reduceEqDiff, B1Fs33]
      refine ⟨fun _ => ?_, fun hge => absurd hge (by omega)⟩
      refine WP_draw (by kernel_rfl) sta_eq [(0, 0), (1, 0), (2, 0), (3, 0), (4, 0), (5, 0), (6, 0), (7, 0), (8, 0)] (by kernel_rfl) rfl (by kernel_rfl) ?_
      simp only [hg, hx.cell (j := i) (by omega), hy.cell (j := i) (by omega), Int.toNat_natCast, hvK_eq, coreS, Value.cells, Value.oneCell', Nat.reduceAdd, Nat.reduceSub, Nat.reduceMul, Nat.reduceLeDiff, Int.reduceEq, Nat.reduceEqDiff, drawS, B1Fs33]
      repeat (refine And.intro (by first | omega | (rw [inK_i64]; omega) | rfl | assumption | (exact hx.isSome (by omega)) | (exact hy.isSome (by omega))) ?_)
      by_cases hxy : xs.getD i 0 = ys.getD i 0
      · simp only [hxy, decide_true, Bool.not_true, coreS, Value.cells, Value.oneCell', Nat.reduceAdd, Nat.reduceSub, Nat.reduceMul, Nat.reduceLeDiff, Int.reduceEq, Nat.reduceEqDiff, B1Fs33]
        refine ⟨by rw [inK_i64]; omega, roundK_mk (by kernel_rfl) ⟨rfl, i + 1, by omega, rfl, fun j hj => ?_⟩ ?_⟩
        · by_cases hji : j = i
          · subst hji; exact hxy
          · exact hno j (by omega)
        · show n - ((i : Int) + 1).toNat < n - (i : Int).toNat
          omega
      · have hne : ¬ xs = ys := fun hh => hxy (by rw [hh])
        simp only [hxy, decide_false, Bool.not_false, coreS, Value.cells, Value.oneCell', Nat.reduceAdd, Nat.reduceSub, Nat.reduceMul, Nat.reduceLeDiff, Int.reduceEq, Nat.reduceEqDiff, B1Fs33]
        simp [hne]
    · have hxy : xs = ys := ext_getD (by omega) fun j hj => hno j (by omega)
      simp only [hg, coreS, Value.cells, Value.oneCell', Nat.reduceAdd, Nat.reduceSub, Nat.reduceMul, Nat.reduceLeDiff, Int.reduceEq, Nat.reduceEqDiff, B1Fs33]
      refine ⟨fun hlt => absurd hlt (by omega), fun _ => ?_⟩
      simp [hxy]
  · have hne : ¬ xs = ys := fun hh => he (by rw [hn, hn2, hh])
    have he2 : ¬ (n : Int) = m := by omega
    simp only [he2, decide_false, Bool.not_false, coreS, Value.cells, Value.oneCell', Nat.reduceAdd, Nat.reduceSub, Nat.reduceMul, Nat.reduceLeDiff, Int.reduceEq, Nat.reduceEqDiff, B1Fs33]
    simp [hne]
theorem give107 (g : Nat) (xs : List Int) (f t : Nat) (m : Int) (h : Eng.Heap) (hb : h[g]? = some (.cells (ints xs).toArray 104)) (hl : xs.length = 8) (hf : f < 8) (ht : t < 8)
    (o1 : InK .i64 (xs.getD f 0 - m)) (o2 : InK .i64 ((xs.set f (xs.getD f 0 - m)).getD t 0 + m)) :
    CallsH Tryz.prog 107 #[.pointer (some ⟨g, 0, none⟩), .int .i64 f, .int .i64 t, .int .i64 m] h (fun v h' => h'[g]? = some (.cells (ints (giveL xs f t m)).toArray 104) ∧ Upd h h' g) := by
  refine CallsH_of_exec Tryz.func107 rfl bod107 ?_
  simp only [Tryz.ntmps107, Tryz.results107, coreS, stK_some, splice, Value.cells, Value.oneCell', Nat.reduceAdd, Nat.reduceSub, Nat.reduceMul, Nat.reduceLeDiff, Int.reduceEq, Nat.reduceEqDiff, B1Fs107]
  refine WP_draw (by kernel_rfl) sta_eq [(0, 0), (1, 0), (2, 0), (3, 0), (4, 0), (5, 0), (6, 0), (7, 0), (8, 0), (9, 1)] (by kernel_rfl) rfl (by kernel_rfl) ?_
  simp only [hb, ints_getElem? xs f (by omega), Int.toNat_natCast, coreS, Value.cells, Value.oneCell', Nat.reduceAdd, Nat.reduceSub, Nat.reduceMul, Nat.reduceLeDiff, Int.reduceEq, Nat.reduceEqDiff, drawS, B1Fs107]
  repeat (refine And.intro (by first | omega | (rw [inK_i64]; omega) | rfl | assumption) ?_)
  refine stK_abs hb (by simp [ints_length]; omega) fun h2 g2 u2 => ?_
  rw [splice_one _ _ _ (by rw [ints_length]; omega), ints_set] at g2
  simp only [hvK_eq, coreS, Value.cells, Value.oneCell', Nat.reduceAdd, Nat.reduceSub, Nat.reduceMul, Nat.reduceLeDiff, Int.reduceEq, Nat.reduceEqDiff, drawS, B1Fs107]
  refine WP_draw (by kernel_rfl) sta_eq [(0, 0), (1, 0), (2, 0), (3, 0), (4, 0), (5, 0), (6, 0), (7, 0), (8, 0), (9, 1)] (by kernel_rfl) rfl (by kernel_rfl) ?_
  simp only [g2, ints_getElem? (xs.set f (xs.getD f 0 - m)) t (by simp; omega), Int.toNat_natCast, hvK_eq, coreS, Value.cells, Value.oneCell', Nat.reduceAdd, Nat.reduceSub, Nat.reduceMul, Nat.reduceLeDiff, Int.reduceEq, Nat.reduceEqDiff, drawS, B1Fs107]
  repeat (refine And.intro (by first | omega | (rw [inK_i64]; omega) | rfl | assumption) ?_)
  refine stK_abs g2 (by simp [ints_length]; omega) fun h3 g3 u3 => ?_
  rw [splice_one _ _ _ (by simp [ints_length]; omega), ints_set] at g3
  simp only [hvK_eq, coreS, Value.cells, Value.oneCell', Nat.reduceAdd, Nat.reduceSub, Nat.reduceMul, Nat.reduceLeDiff, Int.reduceEq, Nat.reduceEqDiff, drawS, B1Fs107]
  exact ⟨g3, u2.trans u3⟩
theorem clr37 {h : Eng.Heap} {er : Env} {ty ct : TypeId} {x : Operand} {g off n c : Nat} {cur : List Value} {K : Value → Eng.Heap → Prop} (hx : ev er x = .slice (some ⟨g, off, none⟩) n c) (hb : h[g]? = some (.cells cur.toArray ct (0, 0))) (hl : off + n ≤ cur.length)
    (H : ∀ h', h'[g]? = some (.cells (splice cur off (List.replicate n (.int .i64 0))).toArray ct (0, 0)) → Upd h h' g → K (.tuple #[]) h') : opSem Tryz.prog (.call ⟨.builtin .clear, #[x], #[37]⟩) ty er h K :=
  clear_intsT Tryz.underlying37 zero2 hx hb hl H
theorem cpy37 {h : Eng.Heap} {er : Env} {ty ct : TypeId} {x y : Operand} {b : Option Addr} {g off n c m c2 : Nat} {cur : List Value} {ys : List Int} {K : Value → Eng.Heap → Prop} (hx : ev er x = .slice (some ⟨g, off, none⟩) n c) (hy : ev er y = .slice b m c2) (hb : h[g]? = some (.cells cur.toArray ct (0, 0))) (hl : off + n ≤ cur.length) (I : IntsV h b m ys)
    (H : ∀ h', h'[g]? = some (.cells (splice cur off (ints (ys.take n))).toArray ct (0, 0)) → Upd h h' g → K (.int .i64 (min m n : Nat)) h') : opSem Tryz.prog (.call ⟨.builtin .copy, #[x, y], #[37, 37]⟩) ty er h K :=
  copy_intsT Tryz.underlying37 Tryz.underlying37 inf2 sz2 hx hy hb hl I H
theorem balances79 (g0 : Nat) (acc cl : Int) (a : Option Addr) (n c : Nat) (es : List En) (day : Int) (h : Eng.Heap) (hb0 : h[g0]? = some (.cells #[.int .i64 acc, .int .i64 cl, .slice a n c] 150)) (hr : Row h a (ensV es)) (hn : n = es.length) (hl : n ≤ 20) (hok : ∀ e ∈ es, okE acc e) (ha : acc ≤ 8) (hne : ∀ e ∈ es, e.f ≠ e.t) :
    CallsH Tryz.prog 79 #[.pointer (some ⟨g0, 0, none⟩), .int .i64 day] h (fun v h' => v = .agg (ints (bals 8 es day)).toArray ∧ Ext h h') := by
  refine CallsH_of_exec Tryz.func79 rfl bod79 ?_
  simp only [Tryz.ntmps79, Tryz.results79, coreS, stK_some, splice, Value.cells, Value.oneCell', Nat.reduceAdd, Nat.reduceSub, Nat.reduceMul, Nat.reduceLeDiff, Int.reduceEq, Nat.reduceEqDiff, B1Fs79]
  have e8 : (((8 : Nat) : Int) - ((0 : Nat) : Int)).toNat = 8 := rfl
  simp only [ite_self, e8]
  refine ⟨by omega, by omega, by omega, by omega, ?_⟩
  have hb1 := push_new (h := h.push (.cells #[.int .i64 0, .int .i64 0, .int .i64 0, .int .i64 0, .int .i64 0, .int .i64 0, .int .i64 0, .int .i64 0] 104)) (o := .cells #[.int .i64 0, .int .i64 0, .int .i64 0, .int .i64 0, .int .i64 0, .int .i64 0, .int .i64 0, .int .i64 0] 104)
  rw [push_size] at hb1
  refine clr37 (cur := [.int .i64 0, .int .i64 0, .int .i64 0, .int .i64 0, .int .i64 0, .int .i64 0, .int .i64 0, .int .i64 0]) rfl hb1 (by simp) fun h1 g1 u1 => ?_
  have x1 : Ext h h1 := u1.ext (((Ext.refl h).push _).push _) (by omega)
  have q4 : h1[h.size]? = some (.cells #[.int .i64 0, .int .i64 0, .int .i64 0, .int .i64 0, .int .i64 0, .int .i64 0, .int .i64 0, .int .i64 0] 104) := u1.get pn0 (by omega)
  replace g1 : h1[h.size + 1]? = some (.cells (ints (bals 8 (es.take 0) day)).toArray 104) := by rw [List.take_zero, bals_nil]; exact g1
  have hb2 := x1.get hb0
  simp only [hb2, coreS, Value.cells, Value.oneCell', Nat.reduceAdd, Nat.reduceSub, Nat.reduceMul, Nat.reduceLeDiff, Int.reduceEq, Nat.reduceEqDiff, B1Fs79]
  refine WP_loopI [7, 15, 16, 17, 18, 19, 20, 21, 22, 23, 24, 25, 26, 27, 28, 29, 30] (fun g h' => ∃ i : Nat, i ≤ n ∧ g 15 = .int .i64 i ∧ h'[h.size + 1]? = some (.cells (ints (bals 8 (es.take i) day)).toArray 104) ∧ h'[h.size]? = some (.cells #[.int .i64 0, .int .i64 0, .int .i64 0, .int .i64 0, .int .i64 0, .int .i64 0, .int .i64 0, .int .i64 0] 104) ∧ Ext h h') (fun g _ => match g 15 with | .int _ m => n - m.toNat | _ => 0) ⟨0, by omega, rfl, g1, q4, x1⟩ ?_
  rintro g h' ⟨i, hin, hg, hb, hq, hx⟩
  have hlt : h.size + 1 < h'.size := lt_of_get hb
  by_cases hi : i < es.length
  · have hsm : a.isSome = true := hr.isSome (by rw [ensV_length]; omega)
    have hc1 := rowE (hr.ext hx) hi
    have hoe := hok _ (List.getElem_mem hi)
    have hfe := hne _ (List.getElem_mem hi)
    obtain ⟨f, hf⟩ : ∃ f : Nat, es[i].f = f := ⟨es[i].f.toNat, by unfold okE at hoe; omega⟩
    obtain ⟨t, ht⟩ : ∃ t : Nat, es[i].t = t := ⟨es[i].t.toNat, by unfold okE at hoe; omega⟩
    have hf8 : f < 8 := by unfold okE at hoe; omega
    have ht8 : t < 8 := by unfold okE at hoe; omega
    have hft : f ≠ t := by omega
    rw [hf, ht] at hc1
    simp only [hg, hc1, coreS, Value.cells, Value.oneCell', Nat.reduceAdd, Nat.reduceSub, Nat.reduceMul, Nat.reduceLeDiff, Int.reduceEq, Nat.reduceEqDiff, B1Fs79]
    refine ⟨fun _ => ?_, fun hge => absurd hge (by omega)⟩
    refine ⟨by omega, hsm, ?_⟩
    simp only [coreS, stK_some, splice, Value.cells, Value.oneCell', Nat.reduceAdd, Nat.reduceSub, Nat.reduceMul, Nat.reduceLeDiff, Int.reduceEq, Nat.reduceEqDiff, B1Fs79]
    refine ⟨fun hd => ?_, fun hd => ?_⟩
    · have hb' : (h'.push (.cells #[.int .i64 es[i].d, .int .i64 f, .int .i64 t, .int .i64 es[i].a] 26))[h.size + 1]? = some (.cells (ints (bals 8 (es.take i) day)).toArray 104) := push_old hb
      have hA : ∀ k, -(20000 : Int) ≤ balA (es.take i) day k ∧ balA (es.take i) day k ≤ 20000 := fun k => by
        have := balA_bound day k (es := es.take i) fun e he => hok e (List.mem_of_mem_take he)
        have h2 : (es.take i).length ≤ 20 := by rw [List.length_take]; omega
        omega
      have h1 := hA f
      have h2 := hA t
      have h3 : 1 ≤ es[i].a ∧ es[i].a ≤ 1000 := hoe.2.2.2
      refine CallsH.mono (give107 (h.size + 1) _ f t es[i].a _ hb' (bals_length ..) hf8 ht8 ?_ ?_) ?_
      · rw [bals_get _ _ hf8, inK_i64]; omega
      · rw [getD_set, if_neg (by omega), bals_get _ _ ht8, inK_i64]; omega
      · rintro v h3 ⟨g3, u3⟩
        rw [bals_give hd hf ht hf8 ht8, ← take_nextE hi] at g3
        simp only [coreS, Value.cells, Value.oneCell', Nat.reduceAdd, Nat.reduceSub, Nat.reduceMul, Nat.reduceLeDiff, Int.reduceEq, Nat.reduceEqDiff, B1Fs79]
        refine ⟨by rw [inK_i64]; omega, roundK_mk (by kernel_rfl) ⟨i + 1, by omega, rfl, g3, u3.get (push_old hq) (by omega), u3.ext (hx.push _) (by omega)⟩ ?_⟩
        show n - ((i : Int) + 1).toNat < n - (i : Int).toNat
        omega
    · refine ⟨by rw [inK_i64]; omega, roundK_mk (by kernel_rfl) ⟨i + 1, by omega, rfl, ?_, push_old hq, hx.push _⟩ ?_⟩
      · rw [take_nextE hi, bals_skip (by omega)]; exact push_old hb
      · show n - ((i : Int) + 1).toNat < n - (i : Int).toNat
        omega
  · obtain rfl : i = n := by omega
    rw [List.take_of_length_le (by omega)] at hb
    obtain ⟨b0, b1, b2, b3, b4, b5, b6, b7, h8⟩ : ∃ b0 b1 b2 b3 b4 b5 b6 b7 : Int, bals 8 es day = [b0, b1, b2, b3, b4, b5, b6, b7] := ⟨_, _, _, _, _, _, _, _, rfl⟩
    replace hb : h'[h.size + 1]? = some (.cells #[.int .i64 b0, .int .i64 b1, .int .i64 b2, .int .i64 b3, .int .i64 b4, .int .i64 b5, .int .i64 b6, .int .i64 b7] 104) := by rw [hb, h8]; rfl
    simp only [hg, hb, hq, coreS, Value.cells, Value.oneCell', Nat.reduceAdd, Nat.reduceSub, Nat.reduceMul, Nat.reduceLeDiff, Int.reduceEq, Nat.reduceEqDiff, B1Fs79]
    refine ⟨fun hlt => absurd hlt (by omega), fun _ => ?_⟩
    refine stK_abs hq (by simp) fun h3 g3 u3 => ?_
    simp only [splice] at g3
    simp only [g3, coreS, stK_some, splice, Value.cells, Value.oneCell', Nat.reduceAdd, Nat.reduceSub, Nat.reduceMul, Nat.reduceLeDiff, Int.reduceEq, Nat.reduceEqDiff, B1Fs79]
    refine ⟨by rw [h8]; rfl, u3.ext hx (by omega)⟩
end Go.Proofs.YtepaekbjoombpaaGreatDoor
