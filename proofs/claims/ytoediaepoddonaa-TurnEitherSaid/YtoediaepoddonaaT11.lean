/- Walks: Compact, begun, over, code. -/
import Derived.Test.YtoediaepoddonaaT7
import Derived.Test.YtoediaepoddonaaT10
import Derived.Test.YtoediaepoddonaaL3
namespace Go.Proofs.Ytoediaepoddonaa
open Go Go.Proofs Go.Eng Go.Run Tab
set_option maxRecDepth 100000
set_option linter.unusedSimpArgs false
set_option linter.unusedVariables false
set_option maxHeartbeats 1000000
theorem clr22 {h : Eng.Heap} {er : Env} {ty : TypeId} {x : Operand} {g off n c : Nat} {cur : List Value} {K : Value → Eng.Heap → Prop} (hx : ev er x = .slice (some ⟨g, off, none⟩) n c) (hb : h[g]? = some (.cells cur.toArray 3 (0, 0))) (hl : off + n ≤ cur.length)
    (H : ∀ h', h'[g]? = some (.cells (splice cur off (List.replicate n (.int .i64 0))).toArray 3 (0, 0)) → Upd h h' g → K (.tuple #[]) h') : opSem Try.prog (.call ⟨.builtin .clear, #[x], #[22]⟩) ty er h K :=
  clear_intsT Try.underlying22 zero3 hx hb hl H
theorem cpy22 {h : Eng.Heap} {er : Env} {ty : TypeId} {x y : Operand} {b : Option Addr} {g off n c m c2 : Nat} {cur : List Value} {ys : List Int} {K : Value → Eng.Heap → Prop} (hx : ev er x = .slice (some ⟨g, off, none⟩) n c) (hy : ev er y = .slice b m c2) (hb : h[g]? = some (.cells cur.toArray 3 (0, 0))) (hl : off + n ≤ cur.length) (I : IntsV h b m ys)
    (H : ∀ h', h'[g]? = some (.cells (splice cur off (ints (ys.take n))).toArray 3 (0, 0)) → Upd h h' g → K (.int .i64 (min m n : Nat)) h') : opSem Try.prog (.call ⟨.builtin .copy, #[x, y], #[22, 22]⟩) ty er h K :=
  copy_intsT Try.underlying22 Try.underlying22 inf3 sz3 hx hy hb hl I H
theorem tl_get {xs : List Int} {tl : List Value} {i : Nat} (hi : i < xs.length) : (ints xs ++ tl)[i]? = some (.int .i64 (xs.getD i 0)) := by
  rw [List.getElem?_append_left (by rw [ints_length]; exact hi), ints_getElem? _ _ hi]
theorem tl_set {xs : List Int} {tl : List Value} {i : Nat} {v : Int} (hi : i < xs.length) : splice (ints xs ++ tl) i [.int .i64 v] = ints (xs.set i v) ++ tl := by
  rw [splice_one _ _ _ (by simp [ints_length]; omega), List.set_append_left _ _ (by rw [ints_length]; exact hi), ints_set]
theorem srt_nodup {ys : List Int} (hs : srt ys) : ys.Nodup ↔ ∀ j, 1 ≤ j → j < ys.length → ys.getD j 0 ≠ ys.getD (j - 1) 0 := by
  have g : ∀ j, (hj : j < ys.length) → ys.getD j 0 = ys[j] := fun j hj => by rw [List.getD, List.getElem?_eq_getElem hj]; rfl
  constructor
  · intro hn j h1 h2
    rw [g j h2, g (j - 1) (by omega)]
    exact fun h => (List.pairwise_iff_getElem.1 hn) (j - 1) j (by omega) h2 (by omega) h.symm
  · intro H
    unfold List.Nodup
    rw [List.pairwise_iff_getElem]
    intro i j hi hj hij he
    have hle := List.pairwise_iff_getElem.1 hs
    have h1 := H (i + 1) (by omega) (by omega)
    rw [g (i + 1) (by omega), Nat.add_sub_cancel, g i hi] at h1
    have a1 := hle i (i + 1) hi (by omega) (by omega)
    rcases Nat.lt_or_ge (i + 1) j with h2 | h2
    · have a2 := hle (i + 1) j (by omega) hj h2
      omega
    · have : j = i + 1 := by omega
      subst this
      omega
theorem compact84 (m n c : Nat) (a : Option Addr) (ys : List Int) (h : Eng.Heap) (O : OwnI m h 3 a n c ys) (hs : srt ys) (hl : n ≤ 12) :
    CallsH Try.prog 84 #[.slice a n c] h (fun v h' => (∃ a' n' c', v = .slice a' n' c' ∧ (ys.Nodup → n' = n) ∧ (¬ ys.Nodup → n' < n)) ∧ h'.size = h.size ∧ ∀ b < m, h'[b]? = h[b]?) := by
  have hn := O.ln
  refine CallsH_of_exec Try.func84 rfl bod84 ?_
  simp only [Try.ntmps84, Try.results84, coreS, stK_some, splice, Value.cells, Value.oneCell', Nat.reduceAdd, Nat.reduceSub, Nat.reduceMul, Nat.reduceLeDiff, Int.reduceEq, Nat.reduceEqDiff, agg3, by3, inf3, sz3, Try.underlying22]
  refine ⟨fun hlt => ⟨⟨_, _, _, rfl, fun _ => rfl, fun hnd => absurd ((srt_nodup hs).2 fun j h1 h2 => by omega) hnd⟩, fun _ _ => trivial⟩, fun hge => ?_⟩
  obtain ⟨g, tl, rfl, hg, hb, hc, hc2, _⟩ := O.block (by omega)
  refine WP_loopI [2, 3, 4, 5, 10, 11, 12, 13, 14, 15, 16, 17, 18, 19, 20, 21, 22, 23, 24, 25, 26, 27, 28, 29, 30, 31, 32, 33, 34, 35, 36, 37, 38, 39, 40, 41, 42, 43, 44, 45, 46, 47, 48, 49, 50, 51, 52, 53, 54, 55, 56, 57, 58, 59] (fun e h' => h' = h ∧ ∃ k : Nat, 1 ≤ k ∧ k ≤ n ∧ e 3 = .int .i64 k ∧ ∀ j, 1 ≤ j → j < k → ys.getD j 0 ≠ ys.getD (j - 1) 0) (fun e _ => match e 3 with | .int _ q => n - q.toNat | _ => 0) ⟨rfl, 1, by omega, by omega, rfl, fun j h1 h2 => by omega⟩ ?_
  rintro e h' ⟨rfl, k, hk1, hk2, he, hno⟩
  simp only [he, coreS, Value.cells, Value.oneCell', Nat.reduceAdd, Nat.reduceSub, Nat.reduceMul, Nat.reduceLeDiff, Int.reduceEq, Nat.reduceEqDiff, agg3, by3, inf3, sz3, Try.underlying22]
  refine ⟨fun hlt => ?_, fun hge => ?_⟩
  · have hkn : k < n := by omega
    obtain ⟨k', rfl⟩ : ∃ k', k = k' + 1 := ⟨k - 1, by omega⟩
    have ek : ((k' + 1 : Nat) : Int) - 1 = (k' : Int) := by omega
    have c1 := tl_get (xs := ys) (tl := tl) (show k' < ys.length by omega)
    have c2 := tl_get (xs := ys) (tl := tl) (show k' + 1 < ys.length by omega)
    refine WP_draw (by kernel_rfl) sta_eq [(0, 0), (1, 0), (2, 0), (3, 0), (4, 0), (5, 0), (6, 0), (7, 0), (8, 0), (9, 0)] (by kernel_rfl) rfl (by kernel_rfl) ?_
    simp only [ek, hb, c1, c2, hvK_eq, coreS, Value.cells, Value.oneCell', Nat.reduceAdd, Nat.reduceSub, Nat.reduceMul, Nat.reduceLeDiff, Int.reduceEq, Nat.reduceEqDiff, drawS, agg3, by3, inf3, sz3, Try.underlying22]
    repeat (refine And.intro (by first | omega | (rw [inK_i64]; omega) | rfl | assumption) ?_)
    refine ⟨fun heq => ?_, fun hne => ⟨by rw [inK_i64]; omega, roundK_mk (by kernel_rfl) ⟨rfl, k' + 1 + 1, by omega, by omega, rfl, fun j h1 h2 => ?_⟩ ?_⟩⟩
    · have hnd : ¬ ys.Nodup := fun h => (srt_nodup hs).1 h (k' + 1) (by omega) (by omega) (by simpa using heq)
      repeat (refine And.intro (by first | omega | (rw [inK_i64]; omega) | rfl | assumption) ?_)
      have ef : (c : Int) ≠ ((k' + 1 : Nat) : Int) := by omega
      have e1 : ((n : Int) - ((k' + 1 : Nat) : Int)).toNat = n - (k' + 1) := by omega
      have e2 : ((c : Int) - ((k' + 1 : Nat) : Int)).toNat = c - (k' + 1) := by omega
      simp only [ef, e1, e2, coreS, Value.cells, Value.oneCell', Nat.reduceAdd, Nat.reduceSub, Nat.reduceMul, Nat.reduceLeDiff, Int.reduceEq, Nat.reduceEqDiff, agg3, by3, inf3, sz3, Try.underlying22]
      refine WP_loopI [3, 5, 29, 30, 31, 32, 33, 34, 35, 36, 37, 38, 39, 40, 41, 42, 43, 44, 45, 46, 47, 48, 49, 50, 51, 52, 53] (fun e h2 => ∃ (i k2 : Nat) (zs : List Int), zs.length = n ∧ k' + 1 ≤ i ∧ 1 ≤ k2 ∧ k2 ≤ n - (k' + 1) ∧ i ≤ k' + k2 ∧ e 3 = .int .i64 i ∧ e 5 = .int .i64 k2 ∧ Upd h' h2 g ∧ h2[g]? = some (.cells (ints zs ++ tl).toArray 3)) (fun e _ => match e 5 with | .int _ q => n - q.toNat | _ => 0) ⟨k' + 1, 1, ys, by omega, by omega, by omega, by omega, by omega, rfl, rfl, Upd.refl _ _, hb⟩ ?_
      rintro e h2 ⟨i, k2, zs, hz, hi1, hk21, hk22, hik, he3, he5, u2, hb2⟩
      simp only [he3, he5, coreS, Value.cells, Value.oneCell', Nat.reduceAdd, Nat.reduceSub, Nat.reduceMul, Nat.reduceLeDiff, Int.reduceEq, Nat.reduceEqDiff, agg3, by3, inf3, sz3, Try.underlying22]
      refine ⟨fun hlt2 => ?_, fun hge2 => ?_⟩
      · obtain ⟨q, rfl⟩ : ∃ q, k2 = q + 1 := ⟨k2 - 1, by omega⟩
        have eq1 : ((q + 1 : Nat) : Int) - 1 = (q : Int) := by omega
        have d1 := tl_get (xs := zs) (tl := tl) (show k' + 1 + q < zs.length by omega)
        have d2 := tl_get (xs := zs) (tl := tl) (show k' + 1 + (q + 1) < zs.length by omega)
        refine WP_draw (by kernel_rfl) sta_eq [(0, 0), (1, 0), (2, 0), (3, 0), (4, 0), (5, 0), (6, 0), (7, 0), (8, 0), (9, 0)] (by kernel_rfl) rfl (by kernel_rfl) ?_
        simp only [eq1, hb2, d1, d2, hvK_eq, coreS, Value.cells, Value.oneCell', Nat.reduceAdd, Nat.reduceSub, Nat.reduceMul, Nat.reduceLeDiff, Int.reduceEq, Nat.reduceEqDiff, drawS, agg3, by3, inf3, sz3, Try.underlying22]
        repeat (refine And.intro (by first | omega | (rw [inK_i64]; omega) | rfl | assumption) ?_)
        refine ⟨fun heq2 => ⟨by rw [inK_i64]; omega, roundK_mk (by kernel_rfl) ⟨i, q + 1 + 1, zs, hz, by omega, by omega, by omega, by omega, rfl, rfl, u2, hb2⟩ ?_⟩, fun hne2 => ?_⟩
        · show n - ((q + 1 : Nat) + 1 : Int).toNat < n - ((q + 1 : Nat) : Int).toNat
          omega
        · repeat (refine And.intro (by first | omega | (rw [inK_i64]; omega) | rfl | assumption) ?_)
          refine stK_abs hb2 (by simp [ints_length]; omega) fun h3 g3 u3 => ?_
          rw [tl_set (by omega)] at g3
          simp only [he3, coreS, Value.cells, Value.oneCell', Nat.reduceAdd, Nat.reduceSub, Nat.reduceMul, Nat.reduceLeDiff, Int.reduceEq, Nat.reduceEqDiff, agg3, by3, inf3, sz3, Try.underlying22]
          refine ⟨by rw [inK_i64]; omega, by rw [inK_i64]; omega, roundK_mk (by kernel_rfl) ⟨i + 1, q + 1 + 1, _, by rw [List.length_set]; exact hz, by omega, by omega, by omega, by omega, rfl, rfl, u2.trans u3, g3⟩ ?_⟩
          show n - ((q + 1 : Nat) + 1 : Int).toNat < n - ((q + 1 : Nat) : Int).toNat
          omega
      · have hin : i < n := by omega
        repeat (refine And.intro (by first | omega | (rw [inK_i64]; omega) | rfl | assumption) ?_)
        have ef2 : (c : Int) ≠ (i : Int) := by omega
        have e3 : ((n : Int) - (i : Int)).toNat = n - i := by omega
        have e4 : ((c : Int) - (i : Int)).toNat = c - i := by omega
        simp only [ef2, e3, e4, coreS, Value.cells, Value.oneCell', Nat.reduceAdd, Nat.reduceSub, Nat.reduceMul, Nat.reduceLeDiff, Int.reduceEq, Nat.reduceEqDiff, agg3, by3, inf3, sz3, Try.underlying22]
        refine clr22 rfl hb2 (by simp [ints_length]; omega) fun h3 g3 u3 => ?_
        simp only [he3, coreS, Value.cells, Value.oneCell', Nat.reduceAdd, Nat.reduceSub, Nat.reduceMul, Nat.reduceLeDiff, Int.reduceEq, Nat.reduceEqDiff, agg3, by3, inf3, sz3, Try.underlying22]
        repeat (refine And.intro (by first | omega | (rw [inK_i64]; omega) | rfl | assumption) ?_)
        refine ⟨⟨_, _, _, rfl, fun h => absurd h hnd, fun _ => ?_⟩, (u2.trans u3).size, fun b hb => (u2.trans u3).old b (by omega)⟩
        omega
    · rcases Nat.lt_or_ge j (k' + 1) with h3 | h3
      · exact hno j h1 h3
      · have : j = k' + 1 := by omega
        subst this
        simpa using hne
    · show n - ((k' + 1 : Nat) + 1 : Int).toNat < n - ((k' + 1 : Nat) : Int).toNat
      omega
  · have : k = n := by omega
    subst this
    exact ⟨⟨_, _, _, rfl, fun _ => rfl, fun hnd => absurd ((srt_nodup hs).2 fun j h1 h2 => hno j h1 (by omega)) hnd⟩, fun _ _ => trivial⟩
/-- The error of a beginning of so many shops. -/
def begE (shops : Int) (xs : List Int) : Int :=
  if 1 ≤ shops ∧ shops ≤ 12 then if (xs.length : Int) > shops then 6 else if inB 0 (shops - 1) xs then if xs.Nodup then 0 else 16 else 3 else 6
theorem openE_nil' {n : Int} : openE n [] = if 1 ≤ n ∧ n ≤ 12 then 0 else 6 := by simp [openE]
theorem begun55 (shops : Int) (a : Option Addr) (n c : Nat) (xs : List Int) (h : Eng.Heap) (hv : IntsV h a n xs) (hl : n ≤ 1000000) :
    CallsH Try.prog 55 #[.int .i64 shops, .slice a n c] h (fun v h' => Ext h h' ∧ ((begE shops xs = 0 ∧ ∃ b, v = .tuple #[.pointer (some ⟨b, 0, none⟩), .int .i64 0] ∧ h'[b]? = some (.cells (rcells shops (List.replicate 12 0) 0).toArray 105) ∧ h.size ≤ b) ∨
      (begE shops xs ≠ 0 ∧ v = .tuple #[.pointer none, .int .i64 (begE shops xs)]))) := by
  have hn := hv.len
  refine CallsH_of_exec Try.func55 rfl bod55 ?_
  simp only [Try.ntmps55, Try.results55, coreS, stK_some, splice, Value.cells, Value.oneCell', Nat.reduceAdd, Nat.reduceSub, Nat.reduceMul, Nat.reduceLeDiff, Int.reduceEq, Nat.reduceEqDiff, Try.underlying22]
  refine CallsH.mono (open59 shops none 0 0 [] h (IntsV.nil h) (by omega)) ?_
  rintro v h1 ⟨x1, ⟨h0, b, rfl, hb, hb2⟩ | ⟨hne, rfl⟩⟩
  · have hsh : 1 ≤ shops ∧ shops ≤ 12 := by
      rw [openE_nil'] at h0
      split at h0
      · assumption
      · omega
    simp only [h0, coreS, Value.cells, Value.oneCell', Nat.reduceAdd, Nat.reduceSub, Nat.reduceMul, Nat.reduceLeDiff, Int.reduceEq, Nat.reduceEqDiff, Try.underlying22]
    refine ⟨fun hgt => ⟨x1, .inr ?_⟩, fun hle => ⟨by rw [inK_i64]; omega, ?_⟩⟩
    · have e : begE shops xs = 6 := by rw [begE, if_pos hsh, if_pos (by omega)]
      rw [e]
      exact ⟨by decide, rfl⟩
    · refine CallsH.mono (within60 0 (shops - 1) a n c xs h1 (hv.ext x1) hl) ?_
      rintro v h2 ⟨rfl, x2⟩
      have x02 := x1.trans x2
      cases hin : inB 0 (shops - 1) xs
      · simp only [Bool.not_false, coreS, Value.cells, Value.oneCell', Nat.reduceAdd, Nat.reduceSub, Nat.reduceMul, Nat.reduceLeDiff, Int.reduceEq, Nat.reduceEqDiff, Try.underlying22]
        have e : begE shops xs = 3 := by rw [begE, if_pos hsh, if_neg (by omega), if_neg (by simp [hin])]
        rw [e]
        exact ⟨x02, .inr ⟨by decide, rfl⟩⟩
      · simp only [Bool.not_true, coreS, Value.cells, Value.oneCell', Nat.reduceAdd, Nat.reduceSub, Nat.reduceMul, Nat.reduceLeDiff, Int.reduceEq, Nat.reduceEqDiff, Try.underlying22]
        refine CallsH.mono (values75 a n c h2) ?_
        rintro v h3 ⟨rfl, rfl⟩
        simp only [coreS, Value.cells, Value.oneCell', Nat.reduceAdd, Nat.reduceSub, Nat.reduceMul, Nat.reduceLeDiff, Int.reduceEq, Nat.reduceEqDiff, Try.underlying22]
        refine CallsH.mono (sorted74 _ xs _ (values_seq (a := a) (c := c) hn hl) (by omega) fun h' x => ⟨x.get push_new, ((hv.ext x02).push _).ext x⟩) ?_
        rintro v h4 ⟨x4, ys, hp, hsr, a4, c4, rfl, O4⟩
        simp only [coreS, Value.cells, Value.oneCell', Nat.reduceAdd, Nat.reduceSub, Nat.reduceMul, Nat.reduceLeDiff, Int.reduceEq, Nat.reduceEqDiff, Try.underlying22]
        refine CallsH.mono (compact84 _ _ _ _ ys h4 O4 hsr (by rw [hp.length_eq]; omega)) ?_
        rintro v h5 ⟨⟨a5, n5, c5, rfl, k1, k2⟩, hsz, hk⟩
        have x5 : Ext h h5 := ⟨by rw [hsz]; exact Nat.le_trans (x02.push _).size x4.size, fun b hb => (hk b (by simp; have := x02.size; omega)).trans ((x02.push _).trans x4 |>.old b hb)⟩
        have hlen := hp.length_eq
        by_cases hnd : xs.Nodup
        · have := k1 (hp.nodup_iff.2 hnd)
          have f0 : ¬ ((n5 : Int) < (n : Int)) := by omega
          have e : begE shops xs = 0 := by rw [begE, if_pos hsh, if_neg (by omega), if_pos hin, if_pos hnd]
          simp only [f0, decide_false, coreS, Value.cells, Value.oneCell', Nat.reduceAdd, Nat.reduceSub, Nat.reduceMul, Nat.reduceLeDiff, Int.reduceEq, Nat.reduceEqDiff, Try.underlying22]
          rw [e]
          refine ⟨x5, .inl ⟨rfl, b, rfl, ?_, hb2⟩⟩
          have := lt_of_get hb
          rw [hk b (by simp; have := x2.size; omega), (((Ext.refl h2).push _).trans x4).get (x2.get hb)]
          rfl
        · have := k2 (fun h => hnd (hp.nodup_iff.1 h))
          have f0 : ((n5 : Int) < (n : Int)) := by omega
          have e : begE shops xs = 16 := by rw [begE, if_pos hsh, if_neg (by omega), if_pos hin, if_neg hnd]
          simp only [f0, decide_true, coreS, Value.cells, Value.oneCell', Nat.reduceAdd, Nat.reduceSub, Nat.reduceMul, Nat.reduceLeDiff, Int.reduceEq, Nat.reduceEqDiff, Try.underlying22]
          rw [e]
          exact ⟨x5, .inr ⟨by decide, rfl⟩⟩
  · have hsh : ¬ (1 ≤ shops ∧ shops ≤ 12) := by
      intro hc
      rw [openE_nil', if_pos hc] at hne
      exact hne rfl
    have e6 : openE shops [] = 6 := by rw [openE_nil', if_neg hsh]
    have e : begE shops xs = 6 := by rw [begE, if_neg hsh]
    simp only [e6, coreS, Value.cells, Value.oneCell', Nat.reduceAdd, Nat.reduceSub, Nat.reduceMul, Nat.reduceLeDiff, Int.reduceEq, Nat.reduceEqDiff, Try.underlying22]
    rw [e]
    exact ⟨x1, .inr ⟨by decide, rfl⟩⟩
/-- A round in the heap, with where it is as long as all are there. -/
def Rnd0 (h : Eng.Heap) (rb n : Nat) (L : List Nat) : Prop := ∃ gone a, gone.length = 12 ∧ a < n ∧ h[rb]? = some (.cells (rcel n gone a).toArray 105) ∧ leftL n gone a = L ∧ ((gone = List.replicate 12 0) → a = 0)
theorem Rnd0.new {h : Eng.Heap} {rb n : Nat} (hn1 : 1 ≤ n) (hn : n ≤ 12) (hr : h[rb]? = some (.cells (rcells n (List.replicate 12 0) 0).toArray 105)) : Rnd0 h rb n (List.range n) :=
  ⟨List.replicate 12 0, 0, by simp, by omega, hr, leftL_zero n hn, fun _ => rfl⟩
theorem Rnd0.get {h h' : Eng.Heap} {rb n : Nat} {L : List Nat} (H : Rnd0 h rb n L) (hk : h'[rb]? = h[rb]?) : Rnd0 h' rb n L := by
  obtain ⟨gone, a, h1, h2, h3, h4⟩ := H
  exact ⟨gone, a, h1, h2, hk.trans h3, h4⟩
theorem Rnd0.lt {h : Eng.Heap} {rb n : Nat} {L : List Nat} (H : Rnd0 h rb n L) : rb < h.size := by
  obtain ⟨gone, a, h1, h2, h3, h4⟩ := H
  exact lt_of_get h3
theorem Rnd0.pass {h : Eng.Heap} {rb n m : Nat} {L : List Nat} (hn1 : 1 ≤ n) (hn : n ≤ 12) (H : Rnd0 h rb n L) (hm : m < L.length) :
    CallsH Try.prog 53 #[.pointer (some ⟨rb, 0, none⟩), .int .i64 m] h (fun v h' => v = .int .i64 (L.getD m 0 : Nat) ∧ Chg h h' rb ∧ Rnd0 h' rb n (turned L m)) := by
  obtain ⟨gone, a, h1, h2, h3, rfl, h5⟩ := H
  refine CallsH.mono (pass53 rb n a m gone h hn1 hn h2 h1 h3 hm) ?_
  rintro v h' ⟨q1, q2, q3⟩
  refine ⟨q1, q2, _, _, by simpa using h1, Nat.mod_lt _ (by omega), q3, left_pass (by omega) hm, fun he => ?_⟩
  have hx : (leftL n gone a).getD m 0 < 12 := by
    have : (leftL n gone a).getD m 0 ∈ rot n a := by
      have hmem : (leftL n gone a).getD m 0 ∈ leftL n gone a := by
        rw [List.getD, List.getElem?_eq_getElem hm]
        exact List.getElem_mem hm
      exact (List.mem_filter.1 hmem).1
    have := rot_mem this
    omega
  have := congrArg (fun l => l.getD ((leftL n gone a).getD m 0) 0) he
  simp only [List.getD, List.getElem?_set, h1, List.getElem?_replicate] at this
  simp only [List.getD] at hx
  simp [hx] at this
theorem left_seq {rb n a bx : Nat} {gone : List Int} (hn1 : 1 ≤ n) (hn : n ≤ 12) (ha : a < n) (hg : gone.length = 12) :
    SeqOf Try.prog (.func (.func 94) #[] #[.pointer (some ⟨bx, 0, none⟩)]) (fun h => h[bx]? = some (.cells #[.pointer (some ⟨rb, 0, none⟩)] 62) ∧ h[rb]? = some (.cells (rcel n gone a).toArray 105)) (yis (zs (leftL n gone a))) := by
  refine ⟨94, _, _, rfl, fun lo h0 J E hx hJ step => ?_⟩
  have hlen : (yis (zs (leftL n gone a))).length = (leftL n gone a).length := by simp [yis, zs]
  rw [hlen]
  refine left94 lo bx rb n a gone h0 hn1 hn ha hg J E (fun i h H => (hx i h H).1) (fun i h H => (hx i h H).2) hJ fun i h' hi H => ?_
  refine step i h' _ ?_ H
  simp [yis, zs, List.getD, List.getElem?_eq_getElem hi]
theorem left_mem {n a k : Nat} {gone : List Int} (h : k ∈ leftL n gone a) : k < n := rot_mem (List.mem_filter.1 h).1
theorem ints_twelve (gone : List Int) (hg : gone.length = 12) {n a : Nat} : ((rcel n gone a).drop 1).take 12 = ints gone := by
  rw [rcel, List.drop_succ_cons, List.drop_zero, List.take_append_of_le_length (by rw [ints_length]; omega), List.take_of_length_le (by rw [ints_length]; omega)]
/-- How many are passed over before a shop that is left. -/
theorem over85 (rb n shop : Nat) (L : List Nat) (h : Eng.Heap) (hn1 : 1 ≤ n) (hn : n ≤ 12) (H : Rnd0 h rb n L) (hs : shop ∈ L) :
    CallsH Try.prog 85 #[.pointer (some ⟨rb, 0, none⟩), .int .i64 shop] h (fun v h' => v = .int .i64 (L.idxOf shop : Nat) ∧ Ext h h') := by
  obtain ⟨gone, a, hg, ha, hr, rfl, hz⟩ := H
  have hrb := lt_of_get hr
  refine CallsH_of_exec Try.func85 rfl bod85 ?_
  simp only [Try.ntmps85, Try.results85, coreS, stK_some, splice, Value.cells, Value.oneCell', Nat.reduceAdd, Nat.reduceSub, Nat.reduceMul, Nat.reduceLeDiff, Int.reduceEq, Nat.reduceEqDiff, agg103, agg3, fo105_1, inf103, inf3, sz103, sz3, zero103, zero3]
  have e0 : updH ((h.push (.cells #[.int .i64 shop] 3)).push (.cells #[.int .i64 0] 3)) (h.size + 1) [.int .i64 0] 3 = (h.push (.cells #[.int .i64 shop] 3)).push (.cells #[.int .i64 0] 3) := by
    have := upd_push_new (h := h.push (.cells #[.int .i64 shop] 3)) (o := .cells #[.int .i64 0] 3) (c := [.int .i64 0]) (ct := 3)
    simpa using this
  rw [e0]
  clear e0
  obtain ⟨h2, he⟩ : ∃ h2, h2 = (h.push (.cells #[.int .i64 shop] 3)).push (.cells #[.int .i64 0] 3) := ⟨_, rfl⟩
  have b0 : h2[h.size]? = some (.cells #[.int .i64 shop] 3) := by rw [he]; exact push_old push_new
  have b1 : h2[h.size + 1]? = some (.cells #[.int .i64 0] 3) := by rw [he]; have := push_new (h := h.push (.cells #[.int .i64 shop] 3)) (o := .cells #[.int .i64 0] 3); simpa using this
  have x2 : Ext h h2 := by rw [he]; exact ((Ext.refl h).push _).push _
  have hs2 : h2.size = h.size + 2 := by rw [he]; simp
  rw [← he]
  clear he
  simp only [x2.get hr]
  rw [cesO_cells (by rw [rcel_len hg]; omega), ints_twelve gone hg]
  simp only [onC_some, coreS, Value.cells, Value.oneCell', Nat.reduceAdd, Nat.reduceSub, Nat.reduceMul, Nat.reduceLeDiff, Int.reduceEq, Nat.reduceEqDiff, agg103, agg3, fo105_1, inf103, inf3, sz103, sz3, zero103, zero3]
  simp only [show okFields Try.prog 103 = false by kernel_rfl, bldO_no]
  refine build_zeroT (z := ints (List.replicate 12 0)) (n := 12) (el := 3) (by kernel_rfl) inf3 (by kernel_rfl) ?_
  simp only [coreS, Value.cells, Value.oneCell', Nat.reduceAdd, Nat.reduceSub, Nat.reduceMul, Nat.reduceLeDiff, Int.reduceEq, Nat.reduceEqDiff, agg103, agg3, fo105_1, inf103, inf3, sz103, sz3, zero103, zero3]
  refine eqIntsW (xs := gone) (ys := List.replicate 12 0) Pt.ok (ti := (Pt.pr.ty 103).getD ⟨0, 0, .any, .other, []⟩) (by kernel_rfl) (by simp [hg]) (by omega) (by rw [hg]; kernel_rfl) ?_ ?_ ?_
  · rfl
  · rfl
  simp only [b0, coreS, Value.cells, Value.oneCell', Nat.reduceAdd, Nat.reduceSub, Nat.reduceMul, Nat.reduceLeDiff, Int.reduceEq, Nat.reduceEqDiff, agg103, agg3, fo105_1, inf103, inf3, sz103, sz3, zero103, zero3]
  refine ⟨fun he => ?_, fun hne => ?_⟩
  · have := hz he
    subst this
    subst he
    have e0 : leftL n [0, 0, 0, 0, 0, 0, 0, 0, 0, 0, 0, 0] 0 = List.range n := leftL_zero n hn
    rw [e0] at hs ⊢
    refine ⟨?_, x2⟩
    have := idx_get (l := List.range n) (c := shop) (by simpa using hs) List.nodup_range
    have e : (List.range n).getD shop 0 = shop := by rw [List.getD, List.getElem?_range (by simpa using hs)]; rfl
    rw [e] at this
    rw [this]
  · refine CallsH.mono (left79 _ _) ?_
    rintro v h3 ⟨rfl, rfl⟩
    simp only [coreS, Value.cells, Value.oneCell', Nat.reduceAdd, Nat.reduceSub, Nat.reduceMul, Nat.reduceLeDiff, Int.reduceEq, Nat.reduceEqDiff, agg103, agg3, fo105_1, inf103, inf3, sz103, sz3, zero103, zero3]
    have hsz3 : (h2.push (.cells (Value.pointer (some ⟨rb, 0, none⟩)).cells 62)).size = h.size + 3 := by simp [hs2]
    obtain ⟨h3, hh3⟩ : ∃ h3, h3 = h2.push (.cells (Value.pointer (some ⟨rb, 0, none⟩)).cells 62) := ⟨_, rfl⟩
    have x3 : Ext h2 h3 := by rw [hh3]; exact (Ext.refl h2).push _
    have b2 : h3[h.size + 2]? = some (.cells #[.pointer (some ⟨rb, 0, none⟩)] 62) := by rw [hh3, ← hs2]; exact push_new
    rw [hs2]
    show WP none Try.prog _ _ _ _ (h2.push (.cells (Value.pointer (some ⟨rb, 0, none⟩)).cells 62))
    rw [← hh3] at hsz3 ⊢
    replace b0 := x3.get b0
    replace b1 := x3.get b1
    have hr3 := (x2.trans x3).get hr
    replace x2 := x2.trans x3
    clear hh3 hs2 x3
    have hix := List.idxOf_lt_length_of_mem hs
    obtain ⟨m, hm⟩ : ∃ m, m = (leftL n gone a).idxOf shop := ⟨_, rfl⟩
    have hgm := get_idx hs
    have hlo : ∀ i < m, (leftL n gone a).getD i 0 ≠ shop := fun i hi he => by
      have hil : i < (leftL n gone a).length := by omega
      have := idx_get hil ((rot_nodup n a).sublist List.filter_sublist)
      rw [he, ← hm] at this
      omega
    have hm12 : m < 12 := by
      have : (leftL n gone a).length ≤ (rot n a).length := List.length_filter_le _ _
      rw [rot_length] at this
      omega
    rw [← hm] at hix hgm ⊢
    refine WP_rangeI rfl (left_seq (rb := rb) (gone := gone) hn1 hn ha hg) (fun i h' => i ≤ m ∧ h'[h.size]? = some (.cells #[.int .i64 shop] 3) ∧ h'[h.size + 1]? = some (.cells #[.int .i64 (i : Nat)] 3) ∧ h'[h.size + 2]? = some (.cells #[.pointer (some ⟨rb, 0, none⟩)] 62) ∧ h'[h.size + 3]? = some (.deferred (some [])) ∧ Ext h h')
      (fun j h' => j = .exit 0 ∧ h'[h.size + 1]? = some (.cells #[.int .i64 (m : Nat)] 3) ∧ h'[h.size + 3]? = some (.deferred (some [])) ∧ Ext h h') ?_ ?_ ?_ ?_ ?_ ?_ ?_ ?_
    · intro vs hvs
      simp only [yis, List.mem_map] at hvs
      obtain ⟨_, _, rfl⟩ := hvs
      rfl
    · rintro i h' ⟨z0, z1, z2, z3, z4, z5⟩
      exact ⟨z3, z5.get hr⟩
    · rintro i h4 h5 ⟨z0, z1, z2, z3, z4, z5⟩ u
      rw [hsz3] at u
      exact ⟨z0, u.get z1 (by omega), u.get z2 (by omega), u.get z3 (by omega), u.get z4 (by omega), u.ext z5 (by omega)⟩
    · rintro i h4 h5 ⟨z1, z2, z4, z5⟩ u
      rw [hsz3] at u
      exact ⟨z1, u.get z2 (by omega), u.get z4 (by omega), u.ext z5 (by omega)⟩
    · intro h' x z1 z2
      rw [hsz3] at z1
      exact ⟨by omega, x.get b0, x.get b1, x.get b2, z1, x2.trans x⟩
    · rintro i h' vs o hvs ⟨z0, z1, z2, z3, z4, z5⟩ ho
      obtain ⟨hil, rfl⟩ : ∃ hil : i < (leftL n gone a).length, vs = [.int .i64 ((leftL n gone a).getD i 0 : Nat)] := by
        simp only [yis, zs, List.getElem?_map] at hvs
        cases hq : (leftL n gone a)[i]? with
        | none => simp [hq] at hvs
        | some y =>
          obtain ⟨hil, hy⟩ := List.getElem?_eq_some_iff.1 hq
          refine ⟨hil, ?_⟩
          simp [hq] at hvs
          simp [List.getD, hq, hvs]
      rw [hsz3] at ho ⊢
      simp only [asgI_normal, coreS, Value.cells, Value.oneCell', Nat.reduceAdd, Nat.reduceSub, Nat.reduceMul, Nat.reduceLeDiff, Int.reduceEq, Nat.reduceEqDiff, scopeK_normal, scopeK_ret, scopeK_exit, callV_yield, binds_cons, binds_nil, agg103, agg3, fo105_1, inf103, inf3, sz103, sz3, zero103, zero3]
      refine ⟨ho, fun h4 o2 u4 ho2 => ?_⟩
      have k1 := u4.get z1 (by omega)
      have k2 := u4.get z2 (by omega)
      have k3 := u4.get z3 (by omega)
      have k4 := u4.get z4 (by omega)
      have k5 := u4.ext z5 (by omega)
      clear z1 z2 z3 z4 z5 u4 ho
      simp only [k1, endI_exit, coreS, Value.cells, Value.oneCell', Nat.reduceAdd, Nat.reduceSub, Nat.reduceMul, Nat.reduceLeDiff, Int.reduceEq, Nat.reduceEqDiff, scopeK_normal, scopeK_ret, scopeK_exit, callV_yield, binds_cons, binds_nil, agg103, agg3, fo105_1, inf103, inf3, sz103, sz3, zero103, zero3]
      refine ⟨fun he => ⟨ho2, ?_, k4, k5⟩, fun hne => ?_⟩
      · have : i = m := by
          rcases Nat.lt_or_ge i m with h6 | h6
          · exact absurd (by omega) (hlo i h6)
          · omega
        rw [← this]
        exact k2
      · have : i ≠ m := by
          rintro rfl
          exact hne (by rw [hgm])
        simp only [k2, coreS, Value.cells, Value.oneCell', Nat.reduceAdd, Nat.reduceSub, Nat.reduceMul, Nat.reduceLeDiff, Int.reduceEq, Nat.reduceEqDiff, scopeK_normal, scopeK_ret, scopeK_exit, callV_yield, binds_cons, binds_nil, agg103, agg3, fo105_1, inf103, inf3, sz103, sz3, zero103, zero3]
        refine ⟨by rw [inK_i64]; omega, stK_abs k2 (by simp) fun h6 g2 u6 => ?_⟩
        simp only [endI_normal, coreS, Value.cells, Value.oneCell', Nat.reduceAdd, Nat.reduceSub, Nat.reduceMul, Nat.reduceLeDiff, Int.reduceEq, Nat.reduceEqDiff, scopeK_normal, scopeK_ret, scopeK_exit, callV_yield, binds_cons, binds_nil, agg103, agg3, fo105_1, inf103, inf3, sz103, sz3, zero103, zero3]
        exact ⟨u6.get ho2 (by omega), by omega, u6.get k1 (by omega), g2, u6.get k3 (by omega), u6.get k4 (by omega), u6.ext k5 (by omega)⟩
    · rintro h' ⟨z0, _⟩
      have e : (yis (zs (leftL n gone a))).length = (leftL n gone a).length := by simp [yis, zs]
      omega
    · rintro j h' ⟨rfl, z2, z4, z5⟩
      rw [hsz3]
      simp only [z2, coreS, Value.cells, Value.oneCell', Nat.reduceAdd, Nat.reduceSub, Nat.reduceMul, Nat.reduceLeDiff, Int.reduceEq, Nat.reduceEqDiff, scopeK_normal, scopeK_ret, scopeK_exit, callV_yield, binds_cons, binds_nil, agg103, agg3, fo105_1, inf103, inf3, sz103, sz3, zero103, zero3]
      refine fin_mark z4 ?_
      simp only [coreS, Value.cells, Value.oneCell', Nat.reduceAdd, Nat.reduceSub, Nat.reduceMul, Nat.reduceLeDiff, Int.reduceEq, Nat.reduceEqDiff, scopeK_normal, scopeK_ret, scopeK_exit, callV_yield, binds_cons, binds_nil, agg103, agg3, fo105_1, inf103, inf3, sz103, sz3, zero103, zero3]
      exact Upd.set.ext z5 (by omega)
theorem aft_mem : ∀ (ys l : List Nat) (x : Nat), begF l (ys ++ [x]) → x ∈ aft l (codeF l ys)
  | [], l, x, h => h.2 x (by simp)
  | y :: ys, l, x, h => by
    obtain ⟨h1, h2⟩ := begF_cons (xs := ys ++ [x]) h
    exact aft_mem ys _ x h2
theorem take_next {xs : List Nat} {i : Nat} (hi : i < xs.length) : xs.take (i + 1) = xs.take i ++ [xs.getD i 0] := by
  rw [List.take_add_one, List.getElem?_eq_getElem hi, List.getD, List.getElem?_eq_getElem hi]; rfl
theorem app_chg {h h' h1 : Eng.Heap} {a a' : Option Addr} {el : TypeId} {len cap : Nat} {xs : List Int} {m rb : Nat} (A : App h h' a a') (O : OwnI m h el a len cap xs) (x : Chg h1 h rb) (hm : h1.size ≤ m) : Chg h1 h' rb :=
  ⟨Nat.le_trans x.size A.size, fun c hc hne => (A.old c (Nat.lt_of_lt_of_le hc x.size) fun p hp => by have := (O.lt hp).2; omega).trans (x.old c hc hne)⟩
/-- The code of a beginning, by the round. -/
theorem code56 (rb n nb cb : Nat) (ab : Option Addr) (xs : List Nat) (h h0 : Eng.Heap) (hn1 : 1 ≤ n) (hn : n ≤ 12) (H : Rnd0 h rb n (List.range n)) (x0 : Ext h0 h) (hrb : h0.size ≤ rb) (hb : begF (List.range n) xs) (hv : IntsV h0 ab nb (zs xs)) (hl : xs.length ≤ 12) :
    CallsH Try.prog 56 #[.pointer (some ⟨rb, 0, none⟩), .slice ab nb cb] h (fun v h' => Ext h0 h' ∧ Chg h h' rb ∧ ∃ b, v = .slice (some ⟨b, 0, none⟩) xs.length xs.length ∧ h.size ≤ b ∧ h'[b]? = some (.cells (ints (zs (codeF (List.range n) xs))).toArray 3)) := by
  have hnb := hv.len
  rw [zs_length] at hnb
  refine CallsH_of_exec Try.func56 rfl bod56 ?_
  simp only [Try.ntmps56, Try.results56, coreS, stK_some, splice, Value.cells, Value.oneCell', Nat.reduceAdd, Nat.reduceSub, Nat.reduceMul, Nat.reduceLeDiff, Int.reduceEq, Nat.reduceEqDiff, agg3, by3, inf3, sz3, zero3, Try.underlying22]
  have hrs := H.lt
  refine WP_loopI [5, 8, 9, 15, 16, 17, 18, 19, 20, 21, 22, 23, 24, 25, 26, 27, 28, 29] (fun g h' => ∃ i : Nat, i ≤ nb ∧ g 15 = .int .i64 i ∧ Ext h0 h' ∧ Chg h h' rb ∧ Rnd0 h' rb n (aft (List.range n) (codeF (List.range n) (xs.take i))) ∧ ∃ a cap, g 5 = .slice a i cap ∧ OwnI h.size h' 3 a i cap (zs (codeF (List.range n) (xs.take i)))) (fun g _ => match g 15 with | .int _ m => nb - m.toNat | _ => 0) ?_ ?_
  · exact ⟨0, by omega, rfl, x0, Chg.of_ext (Ext.refl h) rb, by simpa [codeF, aft] using H, none, 0, rfl, OwnI.nil _ _ _⟩
  · rintro g h' ⟨i, hi, hg15, x, hch, R, a, cap, hg5, O⟩
    have hsz := hch.size
    simp only [hg15, hg5, coreS, Value.cells, Value.oneCell', Nat.reduceAdd, Nat.reduceSub, Nat.reduceMul, Nat.reduceLeDiff, Int.reduceEq, Nat.reduceEqDiff, agg3, by3, inf3, sz3, zero3, Try.underlying22]
    refine ⟨fun hlt => ?_, fun hge => ?_⟩
    · have hil : i < xs.length := by omega
      have hiz : i < (zs xs).length := by rw [zs_length]; exact hil
      simp only [(hv.ext x).cell hiz, zs_get, coreS, Value.cells, Value.oneCell', Nat.reduceAdd, Nat.reduceSub, Nat.reduceMul, Nat.reduceLeDiff, Int.reduceEq, Nat.reduceEqDiff, agg3, by3, inf3, sz3, zero3, Try.underlying22]
      refine ⟨⟨by omega, by omega⟩, (hv.ext x).isSome (by omega), ?_⟩
      have hmem : xs.getD i 0 ∈ aft (List.range n) (codeF (List.range n) (xs.take i)) := by
        refine aft_mem _ _ _ ?_
        rw [← take_next hil]
        exact begF_take hb _
      obtain ⟨L, hL⟩ : ∃ L, L = aft (List.range n) (codeF (List.range n) (xs.take i)) := ⟨_, rfl⟩
      rw [← hL] at R hmem
      refine CallsH.mono (over85 rb n _ L h' hn1 hn R hmem) ?_
      rintro v h1 ⟨rfl, x1⟩
      simp only [coreS, Value.cells, Value.oneCell', Nat.reduceAdd, Nat.reduceSub, Nat.reduceMul, Nat.reduceLeDiff, Int.reduceEq, Nat.reduceEqDiff, agg3, by3, inf3, sz3, zero3, Try.underlying22]
      have O1 := (O.ext x1).ext ((Ext.refl h1).push (.cells #[.int .i64 (L.idxOf (xs.getD i 0) : Nat)] 3))
      refine app22 rfl rfl O1 (by have := x1.size; simp; omega) intsV_one (by omega) fun a' cap' h2 O2 A => ?_
      have R2 : Rnd0 h2 rb n L := by
        refine R.get ?_
        have h3 := x1.old rb R.lt
        have h4 : (h1.push (.cells #[.int .i64 (L.idxOf (xs.getD i 0) : Nat)] 3))[rb]? = h1[rb]? := by
          rw [push_get, if_neg]
          have := x1.size; have := R.lt; omega
        rw [← h3, ← h4]
        refine A.old rb (by have := x1.size; have := R.lt; simp; omega) fun p hp => ?_
        have := (O1.lt hp).2
        omega
      have x2 : Ext h0 h2 := A.extN O1 ((x.trans x1).push _) (by have := x0.size; omega)
      have s2 : Chg h h2 rb := app_chg A O1 ((hch.trans (Chg.of_ext x1 rb)).trans (Chg.of_ext ((Ext.refl h1).push _) rb)) (Nat.le_refl _)
      simp only [coreS, Value.cells, Value.oneCell', Nat.reduceAdd, Nat.reduceSub, Nat.reduceMul, Nat.reduceLeDiff, Int.reduceEq, Nat.reduceEqDiff, agg3, by3, inf3, sz3, zero3, Try.underlying22]
      have hidx := List.idxOf_lt_length_of_mem hmem
      refine CallsH.mono (Rnd0.pass hn1 hn R2 hidx) ?_
      rintro v h3 ⟨rfl, c3, R3⟩
      simp only [coreS, Value.cells, Value.oneCell', Nat.reduceAdd, Nat.reduceSub, Nat.reduceMul, Nat.reduceLeDiff, Int.reduceEq, Nat.reduceEqDiff, agg3, by3, inf3, sz3, zero3, Try.underlying22]
      refine ⟨by rw [inK_i64]; omega, roundK_mk (by kernel_rfl) ⟨i + 1, by omega, rfl, Chg.fresh x2 c3 hrb, s2.trans c3, ?_, a', cap', rfl, ?_⟩ ?_⟩
      · rw [take_next hil, codeF_snoc, aft_snoc, ← hL]
        exact R3
      · rw [take_next hil, codeF_snoc, ← hL, zs_append]
        exact O2.keep fun p hp => c3.old _ (O2.lt hp).1 (by have := (O2.lt hp).2; omega)
      · show nb - ((i : Int) + 1).toNat < nb - (i : Int).toNat
        omega
    · have : i = nb := by omega
      subst this
      rw [List.take_of_length_le (by omega)] at O
      repeat (refine And.intro (by first | omega | (rw [inK_i64]; omega) | rfl | assumption) ?_)
      have hbk := push_new (h := h') (o := .cells (List.replicate i (.int .i64 0)).toArray 3)
      simp only [List.flatten_replicate_singleton]
      refine cpy22 rfl rfl hbk (by simp) ((O.ext ((Ext.refl h').push _)).ints) fun h2 g2 u2 => ?_
      simp only [coreS, Value.cells, Value.oneCell', Nat.reduceAdd, Nat.reduceSub, Nat.reduceMul, Nat.reduceLeDiff, Int.reduceEq, Nat.reduceEqDiff, agg3, by3, inf3, sz3, zero3, Try.underlying22]
      have hlc : (zs (codeF (List.range n) xs)).length = i := by rw [zs_length, codeF_length]; omega
      refine ⟨u2.ext (x.push _) x.size, (hch.trans (Chg.of_ext ((Ext.refl h').push _) rb)).upd_new u2 hsz, h'.size, by rw [hnb], hsz, ?_⟩
      rw [g2]
      congr 3
      rw [List.take_of_length_le (by omega)]
      simp [splice, ints_length, hlc]
end Go.Proofs.Ytoediaepoddonaa
