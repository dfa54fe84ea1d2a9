/- Walks: Cover. -/
import Derived.Test.YtmgkeeefbfefgaaPEQM36
import Derived.Test.YtmgkeeefbfefgaaPEQM33
import Derived.Test.YtmgkeeefbfefgaaPE12
namespace Go.Proofs.Ytmgkeeefbfefgaa
open Go Go.Proofs Go.Eng Go.Run Tab
set_option maxRecDepth 100000
set_option linter.unusedSimpArgs false
set_option linter.unusedVariables false
set_option linter.defProp false
set_option maxHeartbeats 2000000
set_option linter.defProp false
def M37Fs29 := (And.intro (And.intro (And.intro @agg24 @agg3) (And.intro @by3 (And.intro @fo24_0 @inf24))) (And.intro (And.intro @inf3 @sz24) (And.intro @sz3 (And.intro @zero3 @Try.underlying25))))
theorem outs_next {X : List Nat} {k : Nat} : MB.outs (k + 1) X = MB.outs k X ++ if X.contains k then [] else [k] := by
  unfold MB.outs
  rw [List.range_succ, List.filter_append]
  congr 1
  cases h : X.contains k
  · rw [List.filter_cons_of_pos (by rw [h]; rfl), List.filter_nil]; rfl
  · rw [List.filter_cons_of_neg (by rw [h]; decide), List.filter_nil]; rfl
theorem outs_len {X : List Nat} {k : Nat} : (MB.outs k X).length ≤ k := by
  have := List.length_filter_le (fun s => !X.contains s) (List.range k)
  rw [List.length_range] at this
  exact this
/-- Numbers, sorted. -/
theorem srt_zs {ys : List Int} {Y : List Nat} (hp : ys.Perm (zsN Y)) (hs : srt ys) (hn : Y.Nodup) : ∃ Z : List Nat, ys = zsN Z ∧ Z.Perm Y ∧ Z.Pairwise (· < ·) := by
  have h0 : ∀ x ∈ ys, 0 ≤ x := fun x hx => by
    obtain ⟨y, _, rfl⟩ := List.mem_map.1 (hp.subset hx)
    omega
  have e := zsN_natL h0
  have hpn : (natL ys).Perm Y := by
    have := hp.map Int.toNat
    rw [show (zsN Y).map Int.toNat = Y from natL_zsN Y] at this
    exact this
  refine ⟨natL ys, e.symm, hpn, ?_⟩
  have hnd := hpn.nodup_iff.2 hn
  have hle : (natL ys).Pairwise (· ≤ ·) := by
    unfold natL
    rw [List.pairwise_map]
    exact hs.imp fun h => by omega
  exact (hle.and hnd).imp fun h => Nat.lt_of_le_of_ne h.1 h.2
/-- What Cover returns is a cover, with as many as the program's list. -/
structure CovP (S M : Nat) (ws : List Wn) (X Y : List Nat) : Prop where
  x1 : X.length ≤ S
  y1 : Y.length ≤ M
  e : covE S M ws (zsN X) (zsN Y) = 0
  n : covN S M ws (zsN X) (zsN Y) = ((lsN S M ws).length : Nat)
theorem cov_good {S M : Nat} {ws : List Wn} {X Y Z : List Nat} (V : Vb S M ws) (A : MB.Alt (shN ws) (moN ws) ws.length M S (MB.mst (shN ws) (moN ws) (List.range ws.length) M S) X Y) (hZ : Z.Perm Y) (hs : Z.Pairwise (· < ·)) : CovP S M ws (MB.outs S X) Z := by
  have hsh : ∀ i, i < ws.length → shN ws i < S := fun i hi => (V.s hi).2
  have hmo : ∀ i, i < ws.length → moN ws i < M := fun i hi => (V.m hi).2
  have I := MB.match_inv (sh := shN ws) (mo := moN ws) (sm := List.range ws.length) (M := M) (fun k hk => (V.m (List.mem_range.1 hk)).2) S
  have h1 := A.size I hsh hmo
  have hYM : ∀ m ∈ Y, m < M := fun m hm => by
    obtain ⟨i, hi, _, rfl⟩ := (A.ys m).1 hm
    exact hmo i hi
  have hup : (MB.outs S X).Pairwise (· < ·) := List.Pairwise.filter _ List.pairwise_lt_range
  have r1 : riseB S (zsN (MB.outs S X)) = true := riseB_yes (up_riseP hup fun x hx => (MB.mem_outs.1 hx).1)
  have r2 : riseB M (zsN Z) = true := riseB_yes (up_riseP hs fun x hx => hYM x (hZ.subset hx))
  have hany : (ws.any fun w => !(zsN (MB.outs S X)).contains w.s && !(zsN Z).contains w.m) = false := by
    rw [List.any_eq_false]
    intro w hw
    obtain ⟨i, hi, rfl⟩ := List.getElem_of_mem hw
    have k1 := (V.s hi).1
    have k2 := (V.m hi).1
    rw [wAt_eq hi] at k1 k2
    rw [k1, k2, zsN_has, zsN_has]
    by_cases hx : shN ws i ∈ X
    · have hm : moN ws i ∈ Z := hZ.mem_iff.2 ((A.ys _).2 ⟨i, hi, ((A.xs _).1 hx).2, rfl⟩)
      rw [List.contains_iff_mem.2 hm]; simp
    · have hm : shN ws i ∈ MB.outs S X := MB.mem_outs.2 ⟨hsh i hi, hx⟩
      rw [List.contains_iff_mem.2 hm]; simp
  have e1 : covE S M ws (zsN (MB.outs S X)) (zsN Z) = 0 := by
    unfold covE
    rw [if_neg (by simpa using V.chk), if_neg (by rw [r1, r2]; simp), if_neg (by rw [hany]; decide)]
  refine ⟨outs_len, ?_, e1, ?_⟩
  · have := MB.nodup_le (m := List.range M) (hs.imp fun h => Nat.ne_of_lt h) fun m hm => List.mem_range.2 (hYM m (hZ.subset hm))
    rwa [List.length_range] at this
  · unfold covN
    rw [if_pos e1, zsN_length, zsN_length, hZ.length_eq, lsN_length V]
    unfold mxv
    rw [← h1]
    unfold MB.outs
    omega
theorem cover29 (S M : Int) (a : Option Addr) (n c : Nat) (ws : List Wn) (h : Eng.Heap) (hr : Row h a (wsV ws)) (hn : n = ws.length) (hl : n ≤ 1000000) :
    CallsH Try.prog 29 #[.agg #[.int .i64 S, .int .i64 M, .slice a n c]] h (fun v h' =>
      ((∃ s m : Nat, S = s ∧ M = m ∧ Vb s m ws ∧ ∃ aX cX X aY cY Y, v = .tuple #[.slice aX X.length cX, .slice aY Y.length cY, .int .i64 0] ∧ IntsV h' aX X.length (zsN X) ∧ IntsV h' aY Y.length (zsN Y) ∧ CovP s m ws X Y) ∨
       (chk S M ws ≠ 0 ∧ v = .tuple #[.slice none 0 0, .slice none 0 0, .int .i64 (chk S M ws)])) ∧ Ext h h') := by
  (refine CallsH_of_exec Try.func29 rfl bod29 ?_; simp only [Try.ntmps29, Try.results29, coreS, stK_some, splice, Value.cells, Value.oneCell', Nat.reduceAdd, Nat.reduceSub, Nat.reduceMul, Nat.reduceLeDiff, Int.reduceEq, Nat.reduceEqDiff, M37Fs29])
  have x0 : Ext h (h.push (.cells #[.int .i64 S, .int .i64 M, .slice a n c] 24)) := (Ext.refl h).push _
  refine CallsH.mono (open49 S M a n c ws _ (hr.ext x0) hn hl) ?_
  rintro v h1 ⟨x1, H⟩
  have y1 := x0.trans x1
  have hb1 := x1.get (push_new (h := h))
  rcases H with ⟨s, m, rfl, rfl, V, g, b, rfl, hg1, hm1, hgs, hbs⟩ | ⟨hc, rfl⟩
  case inr =>
    simp only [hc, decide_false, Bool.not_false, coreS, Value.cells, Value.oneCell', Nat.reduceAdd, Nat.reduceSub, Nat.reduceMul, Nat.reduceLeDiff, Int.reduceEq, Nat.reduceEqDiff, M37Fs29]
    exact ⟨.inr hc, y1⟩
  have hV := V.n
  have v1 := V.s1
  have v2 := V.s2
  simp only [decide_true, Bool.not_true, coreS, Value.cells, Value.oneCell', Nat.reduceAdd, Nat.reduceSub, Nat.reduceMul, Nat.reduceLeDiff, Int.reduceEq, Nat.reduceEqDiff, M37Fs29]
  refine CallsH.mono (alternating72 g b s m a n c ws h1 hg1 (hr.ext y1) hn V) ?_
  rintro v h2 ⟨⟨aX, cX, X, aY, cY, Y, rfl, OX, OY, D, A⟩, x2⟩
  have y2 := y1.trans x2
  have hXs : X.length ≤ s := by
    have := MB.nodup_le (m := List.range s) A.xn fun x hx => List.mem_range.2 ((A.xs x).1 hx).1
    rwa [List.length_range] at this
  have hYm : Y.length ≤ m := by
    have := MB.nodup_le (m := List.range m) A.yn fun x hx => by
      obtain ⟨i, hi, _, rfl⟩ := (A.ys x).1 hx
      exact List.mem_range.2 (V.m hi).2
    rwa [List.length_range] at this
  have v4 := V.m2
  simp only [x2.get hb1, coreS, Value.cells, Value.oneCell', Nat.reduceAdd, Nat.reduceSub, Nat.reduceMul, Nat.reduceLeDiff, Int.reduceEq, Nat.reduceEqDiff, M37Fs29]
  refine WP_loopI [9, 10, 26, 27, 28, 29, 30, 31, 32, 33, 34, 35, 36, 37] (fun e h' => Ext h2 h' ∧ ∃ k : Nat, k ≤ s ∧ e 26 = .int .i64 k ∧ ∃ aO cO, e 9 = .slice aO (MB.outs k X).length cO ∧ OwnI h2.size h' 3 aO (MB.outs k X).length cO (zsN (MB.outs k X))) (fun e _ => match e 26 with | .int _ q => s - q.toNat | _ => 0) ⟨Ext.refl _, 0, by omega, rfl, none, 0, rfl, OwnI.nil _ _ _⟩ ?_
  rintro e h3 ⟨x3, k, hk, he, aO, cO, heO, OO⟩
  have hol := outs_len (X := X) (k := k)
  by_cases hks : k < s
  · have hlt : (k : Int) < (s : Int) := by omega
    have meas : s - ((k : Int) + 1).toNat < s - (k : Int).toNat := by omega
    have hon := outs_next (X := X) (k := k)
    simp only [he, heO, hlt, decide_true, coreS, Value.cells, Value.oneCell', Nat.reduceAdd, Nat.reduceSub, Nat.reduceMul, Nat.reduceLeDiff, Int.reduceEq, Nat.reduceEqDiff, M37Fs29]
    refine CallsH.mono (contains66 aX X.length cX (zsN X) k h3 ((OX.ext x3).ints) (by omega)) ?_
    rintro v h4 ⟨rfl, x4⟩
    rw [zsN_has]
    have x34 := x3.trans x4
    cases hct : X.contains k with
    | true =>
      rw [hct, if_pos rfl, List.append_nil] at hon
      simp only [he, heO, Bool.not_true, coreS, Value.cells, Value.oneCell', Nat.reduceAdd, Nat.reduceSub, Nat.reduceMul, Nat.reduceLeDiff, Int.reduceEq, Nat.reduceEqDiff, M37Fs29]
      refine ⟨by rw [inK_i64]; omega, roundK_mk (by kernel_rfl) ⟨x34, k + 1, by omega, rfl, aO, cO, ?_, ?_⟩ meas⟩
      · rw [hon]; rfl
      · rw [hon]; exact OO.ext x4
    | false =>
      rw [hct, if_neg (by decide)] at hon
      simp only [heO, Bool.not_false, coreS, Value.cells, Value.oneCell', Nat.reduceAdd, Nat.reduceSub, Nat.reduceMul, Nat.reduceLeDiff, Int.reduceEq, Nat.reduceEqDiff, M37Fs29]
      have OO' := (OO.ext x4).ext ((Ext.refl h4).push (.cells #[.int .i64 (k : Int)] 3))
      refine app25 (m0 := h2.size) (len := (MB.outs k X).length) (m := 1) (ys := [(k : Int)]) rfl rfl OO' (by rw [push_size]; have := x34.size; omega) (intsV_one push_new) (by omega) fun a' cap' h5 O5 A5 => ?_
      have ezn : zsN (MB.outs k X) ++ [(k : Int)] = zsN (MB.outs (k + 1) X) := by rw [hon]; simp [zsN]
      have ell : (MB.outs k X).length + 1 = (MB.outs (k + 1) X).length := by rw [hon]; simp
      rw [ezn, ell] at O5
      simp only [he, coreS, Value.cells, Value.oneCell', Nat.reduceAdd, Nat.reduceSub, Nat.reduceMul, Nat.reduceLeDiff, Int.reduceEq, Nat.reduceEqDiff, M37Fs29]
      refine ⟨by rw [inK_i64]; omega, roundK_mk (by kernel_rfl) ⟨A5.extN OO' (x34.push _) (Nat.le_refl _), k + 1, by omega, rfl, a', cap', ?_, O5⟩ meas⟩
      rw [← ell]; rfl
  obtain rfl : k = s := by omega
  simp only [he, heO, show ¬ ((k : Int) < (k : Int)) by omega, decide_false, coreS, Value.cells, Value.oneCell', Nat.reduceAdd, Nat.reduceSub, Nat.reduceMul, Nat.reduceLeDiff, Int.reduceEq, Nat.reduceEqDiff, M37Fs29]
  refine CallsH.mono (sort73_own2 h1.size _ _ _ _ h3 (OY.ext x3) (by omega)) ?_
  rintro v h4 ⟨rfl, ⟨q1, q2⟩, ys, hp, hs, O4⟩
  obtain ⟨Z, rfl, hZ, hZs⟩ := srt_zs hp hs A.yn
  have hYlt : ∀ p, aY = some p → p.block < h2.size ∧ h1.size ≤ p.block := fun p hp => OY.lt hp
  have OO4 := OO.keep (h' := h4) fun p hp => q2 _ (OO.lt hp).1 fun q hq => by have := (hYlt q hq).1; have := (OO.lt hp).2; omega
  have x4 : Ext h h4 := ⟨Nat.le_trans (y2.trans x3).size q1, fun b hb => (q2 b (Nat.lt_of_lt_of_le hb (y2.trans x3).size) fun q hq => by have := (hYlt q hq).2; have := y1.size; omega).trans ((y2.trans x3).old b hb)⟩
  have hZl := hZ.length_eq
  simp only [heO, coreS, Value.cells, Value.oneCell', Nat.reduceAdd, Nat.reduceSub, Nat.reduceMul, Nat.reduceLeDiff, Int.reduceEq, Nat.reduceEqDiff, M37Fs29]
  refine ⟨.inl ⟨k, m, rfl, rfl, V, aO, cO, MB.outs k X, aY, cY, Z, by rw [hZl], OO4.ints, by rw [hZl]; exact O4.ints, cov_good V A hZ hZs⟩, x4⟩
end Go.Proofs.Ytmgkeeefbfefgaa
