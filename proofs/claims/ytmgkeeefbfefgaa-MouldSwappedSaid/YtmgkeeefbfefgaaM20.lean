/- Walks: Clone, Swap. -/
import Derived.Test.YtmgkeeefbfefgaaM19
namespace Go.Proofs.Ytmgkeeefbfefgaa
open Go Go.Proofs Go.Eng Go.Run Tab
set_option maxRecDepth 100000
set_option linter.unusedSimpArgs false
set_option linter.unusedVariables false
set_option linter.defProp false
set_option maxHeartbeats 1000000
set_option linter.defProp false
def M20Fs39 := (And.intro (And.intro (And.intro @agg24 @agg3) (And.intro @by3 @inf24)) (And.intro (And.intro @inf3 @sz24) (And.intro @sz3 @Try.underlying25)))
def M20Fs63 := (And.intro (And.intro @by3 @inf3) (And.intro @sz3 (And.intro @zero3 @Try.underlying25)))
theorem sliceNil {P : Program} {e : Eng.Env} {h : Eng.Heap} {ty u yt el : TypeId} (hu : P.underlying u = some (.slice el)) {x y : Operand} {a : Option Addr} {n c : Nat} (hx : ev e x = .slice a n c) (hy : ev e y = .slice none 0 0) {K : Value → Eng.Heap → Prop} (H : K (.bool a.isNone) h) : opSem P (.binOp .eql u x y yt) ty e h K :=
  opSem_pure rfl _ H fun w _ => by simp [execOp, hx, hy, eqGuard, Go.binOp, eq_slice hu]
theorem binW_slice {op : BinOp} {a b : Option Addr} {n c n2 c2 : Nat} {h : Eng.Heap} {K : Value → Eng.Heap → Prop} {F : Prop} : binW op (.slice a n c) (.slice b n2 c2) h K F = F := by unfold binW; rfl
theorem clone63 (a : Option Addr) (n c : Nat) (xs : List Int) (h : Eng.Heap) (hd : IntsV h a n xs) (hl : n ≤ 900) :
    CallsH Try.prog 63 #[.slice a n c] h (fun v h' => (∃ a' c', v = .slice a' n c' ∧ OwnI h.size h' 3 a' n c' xs) ∧ Ext h h') := by
  have hn := hd.len
  (refine CallsH_of_exec Try.func63 rfl bod63 ?_; simp only [Try.ntmps63, Try.results63, coreS, stK_some, splice, Value.cells, Value.oneCell', Nat.reduceAdd, Nat.reduceSub, Nat.reduceMul, Nat.reduceLeDiff, Int.reduceEq, Nat.reduceEqDiff, M20Fs63])
  rw [binW_slice]
  refine sliceNil Try.underlying25 rfl rfl ?_
  cases a with
  | none =>
    have he : xs = [] := by
      by_cases h0 : 0 < xs.length
      · have := hd.isSome h0; cases this
      · exact List.length_eq_zero_iff.1 (by omega)
    subst he
    subst hn
    simp only [Option.isNone, coreS, Value.cells, Value.oneCell', Nat.reduceAdd, Nat.reduceSub, Nat.reduceMul, Nat.reduceLeDiff, Int.reduceEq, Nat.reduceEqDiff, M20Fs63]
    exact ⟨⟨none, 0, rfl, OwnI.nil _ _ _⟩, Ext.refl _⟩
  | some a =>
    simp only [Option.isNone, coreS, Value.cells, Value.oneCell', Nat.reduceAdd, Nat.reduceSub, Nat.reduceMul, Nat.reduceLeDiff, Int.reduceEq, Nat.reduceEqDiff, M20Fs63]
    have O0 : OwnI h.size (h.push (.cells #[] 3)) 3 (some ⟨h.size, 0, none⟩) 0 0 [] := ⟨rfl, .inr ⟨h.size, #[], rfl, Nat.le_refl _, push_new, by simp, Nat.le_refl _, rfl⟩⟩
    refine app25 rfl rfl O0 (by simp) (hd.ext ((Ext.refl h).push _)) (by omega) fun a' c' h' O A => ?_
    simp only [coreS, Value.cells, Value.oneCell', Nat.reduceAdd, Nat.reduceSub, Nat.reduceMul, Nat.reduceLeDiff, Int.reduceEq, Nat.reduceEqDiff, M20Fs63]
    refine ⟨⟨a', c', rfl, by rw [Nat.zero_add] at O; exact O⟩, A.extN O0 ((Ext.refl h).push _) (Nat.le_refl _)⟩
theorem zsN_get {f : Nat → Nat} {m i : Nat} (hi : i < m) : (zsN ((List.range m).map f)).getD i 0 = ((f i : Nat) : Int) := by
  simp [zsN, List.getD_eq_getElem?_getD, hi]
theorem xor_all : ((List.range 14).all fun c => (List.range 14).all fun d => decide (bitsI .xor .i64 (c : Nat) (bitsI .xor .i64 (d : Nat) (c : Nat)) = (d : Nat)) && decide (bitsI .xor .i64 (d : Nat) (bitsI .xor .i64 (d : Nat) (c : Nat)) = (c : Nat))) = true := by kernel_rfl
theorem xor_two {c d : Nat} (hc : c < 14) (hd : d < 14) : bitsI .xor .i64 (c : Nat) (bitsI .xor .i64 (d : Nat) (c : Nat)) = (d : Nat) ∧ bitsI .xor .i64 (d : Nat) (bitsI .xor .i64 (d : Nat) (c : Nat)) = (c : Nat) := by
  have h1 := List.all_eq_true.1 xor_all c (List.mem_range.2 hc)
  have h2 := List.all_eq_true.1 h1 d (List.mem_range.2 hd)
  simpa using h2
/-- The days with some wants' days swapped. -/
def swj (C : Nat → Nat) (w d : Nat) (l : List Nat) (i : Nat) : Nat := if l.contains i then (if C i = d then C w else d) else C i
def swL (ws : List Wn) (days : List Int) (want day : Int) : List Nat := (List.range ws.length).map (swj (fun i => (natL days).getD i 0) want.toNat day.toNat (chnL ws days want day))
theorem swL_length {ws : List Wn} {days : List Int} {want day : Int} : (swL ws days want day).length = ws.length := by simp [swL]
theorem sw_put {C : Nat → Nat} {w d n i : Nat} {l : List Nat} {v : Nat} (hi : i < n) (hv : v = if C i = d then C w else d) : ((List.range n).map (swj C w d l)).set i v = (List.range n).map (swj C w d (l ++ [i])) := by
  refine List.ext_getElem? fun x => ?_
  rw [List.getElem?_set]
  by_cases hx : x < n
  · simp only [List.length_map, List.length_range, List.getElem?_map, List.getElem?_range hx, Option.map_some]
    by_cases e : i = x
    · subst e
      rw [if_pos rfl, if_pos hi]
      simp [swj, hv]
    · rw [if_neg e]
      have : (l ++ [i]).contains x = l.contains x := by
        rw [Bool.eq_iff_iff, List.contains_iff_mem, List.contains_iff_mem, List.mem_append, List.mem_singleton]
        constructor
        · rintro (h | h)
          · exact h
          · exact absurd h.symm e
        · exact .inl
      simp only [swj, this]
  · have h1 : ((List.range n).map (swj C w d l))[x]? = none := List.getElem?_eq_none (by simp; omega)
    have h2 : ((List.range n).map (swj C w d (l ++ [i])))[x]? = none := List.getElem?_eq_none (by simp; omega)
    rw [h1, h2, if_neg (by omega)]
/-- What Swap returns. -/
structure SwapP (S M : Int) (ws : List Wn) (days : List Int) (want day : Int) (h0 : Nat) (h' : Eng.Heap) (v : Value) : Prop where
  ok : chnE S M ws days want day = 0 → ∃ a cap, v = .tuple #[.slice a ws.length cap, .int .i64 0] ∧ OwnI h0 h' 3 a ws.length cap (zsN (swL ws days want day))
  no : chnE S M ws days want day ≠ 0 → v = .tuple #[.slice none 0 0, .int .i64 (chnE S M ws days want day)]
theorem chnL_mem {ws : List Wn} {days : List Int} {w d i : Nat} (hw : w < ws.length) (hi : i ∈ chnL ws days (w : Int) (d : Int)) : i < ws.length ∧ MB.Ch (shN ws) (moN ws) (fun i => (natL days).getD i 0) ws.length w d i := by
  unfold chnL at hi
  rw [Int.toNat_natCast, Int.toNat_natCast] at hi
  obtain ⟨h1, h2⟩ := List.mem_filter.1 hi
  have h1 := List.mem_range.1 h1
  exact ⟨h1, (MB.cit_iff hw h1).1 h2⟩
theorem swap39 (S M : Int) (a : Option Addr) (n c : Nat) (ws : List Wn) (b : Option Addr) (m k : Nat) (days : List Int) (want day : Int) (h : Eng.Heap) (hr : Row h a (wsV ws)) (hn : n = ws.length) (hl : n ≤ 1000000) (hd : IntsV h b m days) (hm : m ≤ 1000000) :
    CallsH Try.prog 39 #[.agg #[.int .i64 S, .int .i64 M, .slice a n c], .slice b m k, .int .i64 want, .int .i64 day] h (fun v h' => SwapP S M ws days want day h.size h' v ∧ Ext h h') := by
  have hml := hd.len
  (refine CallsH_of_exec Try.func39 rfl bod39 ?_; simp only [Try.ntmps39, Try.results39, coreS, stK_some, splice, Value.cells, Value.oneCell', Nat.reduceAdd, Nat.reduceSub, Nat.reduceMul, Nat.reduceLeDiff, Int.reduceEq, Nat.reduceEqDiff, M20Fs39])
  have x0 : Ext h (h.push (.cells #[.int .i64 S, .int .i64 M, .slice a n c] 24)) := (Ext.refl h).push _
  refine CallsH.mono (chained80 S M a n c ws b m k days want day _ (hr.ext x0) hn hl (hd.ext x0) hm) ?_
  rintro v h1 ⟨P, x1⟩
  have y1 := x0.trans x1
  by_cases hE : chnE S M ws days want day = 0
  case neg =>
    have e := P.no hE
    subst e
    simp only [hE, decide_false, Bool.not_false, coreS, Value.cells, Value.oneCell', Nat.reduceAdd, Nat.reduceSub, Nat.reduceMul, Nat.reduceLeDiff, Int.reduceEq, Nat.reduceEqDiff, M20Fs39]
    exact ⟨⟨fun h0 => absurd h0 hE, fun _ => rfl⟩, y1⟩
  obtain ⟨aL, capL, rfl, OL⟩ := P.ok hE
  obtain ⟨c1, c2, c3, c4⟩ := chnE_ok hE
  obtain ⟨d1, d2, d3, d4⟩ := chkD_ok c1
  have hall := inB_iff.1 d3
  obtain ⟨s, mm, rfl, rfl, V⟩ := chk_ok d1
  have hV := V.n
  obtain ⟨w, rfl⟩ : ∃ w : Nat, want = w := ⟨want.toNat, by omega⟩
  obtain ⟨d, rfl⟩ : ∃ d : Nat, day = d := ⟨day.toNat, by omega⟩
  simp only [decide_true, Bool.not_true, coreS, Value.cells, Value.oneCell', Nat.reduceAdd, Nat.reduceSub, Nat.reduceMul, Nat.reduceLeDiff, Int.reduceEq, Nat.reduceEqDiff, M20Fs39]
  refine CallsH.mono (clone63 b m k days h1 (hd.ext y1) (by omega)) ?_
  rintro v h2 ⟨⟨a2, cap2, rfl, O2⟩, x2⟩
  have y2 := y1.trans x2
  obtain ⟨C, hC⟩ : ∃ C : Nat → Nat, C = fun i => (natL days).getD i 0 := ⟨_, rfl⟩
  have hCd : ∀ i, i < m → days.getD i 0 = (C i : Nat) ∧ C i < 14 := fun i hi => by
    have e1 : C i = (natL days).getD i 0 := by rw [hC]
    rw [e1, natL_get]
    have hm : days.getD i 0 ∈ days := by
      have : i < days.length := by omega
      simp [List.getD, List.getElem?_eq_getElem this]
    have := hall _ hm
    omega
  obtain ⟨L, hL⟩ : ∃ L, L = chnL ws days (w : Int) (d : Int) := ⟨_, rfl⟩
  rw [← hL] at OL
  have hLm : ∀ i ∈ L, i < m ∧ (C i = C w ∨ C i = d) := fun i hi => by
    rw [hL] at hi
    obtain ⟨q1, q2⟩ := chnL_mem (by omega) hi
    refine ⟨by omega, ?_⟩
    have := q2.col
    rw [hC]; exact this
  have hLn : L.Nodup := by rw [hL]; exact List.Pairwise.filter _ List.nodup_range
  have hLl : L.length ≤ m := by
    have := MB.nodup_le (m := List.range m) hLn fun x hx => List.mem_range.2 (hLm x hx).1
    simpa using this
  obtain ⟨g, tl, rfl, hg, hb2, hc2, hc3, _⟩ := O2.block (by omega)
  have hz0 : days = zsN ((List.range m).map (swj C w d [])) := by
    have h0 : ∀ x ∈ days, 0 ≤ x := fun x hx => (hall x hx).1
    have e1 := zsN_natL h0
    have e2 : (List.range m).map (swj C w d []) = natL days := by
      refine List.ext_getElem? fun x => ?_
      by_cases hx : x < m
      · simp only [List.getElem?_map, List.getElem?_range hx, Option.map_some]
        have hx2 : x < (natL days).length := by rw [natL_length]; omega
        rw [List.getElem?_eq_getElem hx2]
        simp [swj, hC, List.getD_eq_getElem?_getD, List.getElem?_eq_getElem hx2]
      · rw [List.getElem?_eq_none (by simp; omega), List.getElem?_eq_none (by rw [natL_length]; omega)]
    rw [e2, e1]
  have yl1 := y1.size
  have hs1 : h.size ≤ g := by omega
  have OL2 := OL.ext x2
  rw [← hL]
  simp only [coreS, Value.cells, Value.oneCell', Nat.reduceAdd, Nat.reduceSub, Nat.reduceMul, Nat.reduceLeDiff, Int.reduceEq, Nat.reduceEqDiff, M20Fs39]
  refine WP_loopI [14, 30, 31, 32, 33, 34, 35, 36, 37, 38, 39, 40, 41, 42, 43, 44, 45, 46] (fun e h' => Upd h2 h' g ∧ ∃ j : Nat, j ≤ L.length ∧ e 30 = .int .i64 j ∧ h'[g]? = some (.cells (Eng.ints (zsN ((List.range m).map (swj C w d (L.take j)))) ++ tl).toArray 3)) (fun e _ => match e 30 with | .int _ q => L.length - q.toNat | _ => 0) ⟨⟨rfl, fun _ _ => rfl⟩, 0, by omega, rfl, by rw [List.take_zero, ← hz0]; exact hb2⟩ ?_
  rintro e h' ⟨u, j, hj, he, hb⟩
  have hgl := lt_of_get hb2
  have hneL : ∀ p, aL = some p → p.block ≠ g := fun p hp => by have := (OL.lt hp).1; omega
  have OL' := OL2.keep (h' := h') fun p hp => u.old _ (hneL p hp)
  by_cases hjl : j < L.length
  · have hlt : (j : Int) < (L.length : Int) := by omega
    obtain ⟨i, hi⟩ : ∃ i, i = L[j] := ⟨_, rfl⟩
    have him : i ∈ L := by rw [hi]; exact List.getElem_mem hjl
    have hgd : (zsN L).getD j 0 = (i : Int) := by simp [zsN, List.getD_eq_getElem?_getD, List.getElem?_eq_getElem hjl, hi]
    have cl := OL'.ints.cell (j := j) (by rw [zsN_length]; exact hjl)
    rw [hgd] at cl
    have sL := OL'.ints.isSome (by rw [zsN_length]; omega)
    have hnot : i ∉ L.take j := fun hm => by
      obtain ⟨q, hq, e⟩ := List.getElem_of_mem hm
      rw [List.getElem_take] at e
      have hq2 : q < j := by rw [List.length_take] at hq; omega
      have := (List.pairwise_iff_getElem.1 hLn) q j (by omega) hjl hq2
      exact this (by rw [e, hi])
    obtain ⟨him1, hic⟩ := hLm i him
    have hcell : (Eng.ints (zsN ((List.range m).map (swj C w d (L.take j)))) ++ tl)[i]? = some (.int .i64 (C i : Nat)) := by
      have hln : i < (zsN ((List.range m).map (swj C w d (L.take j)))).length := by rw [zsN_length]; simp; omega
      rw [List.getElem?_append_left (by rw [Eng.ints_length]; exact hln), Eng.ints_getElem? _ _ hln]
      congr 2
      have hct : (L.take j).contains i = false := by rw [Bool.eq_false_iff, Ne, List.contains_iff_mem]; exact hnot
      rw [zsN_get him1]
      unfold swj
      rw [hct, if_neg (by simp)]
    have cw := ((hd.ext y2).ext (Ext.refl _)).cell (j := w) (by omega)
    have hdb : b.isSome = true := hd.isSome (by omega)
    have hneb : ∀ p, b = some p → p.block ≠ g := fun p hp => by
      rcases hd.row with h1 | ⟨g', off, cur, ct, fr, h1, h2, _⟩
      · have := hd.len; have hl0 : days.length = 0 := by simpa [Eng.ints] using congrArg List.length h1
        omega
      · rw [h1] at hp; cases hp
        have := lt_of_get h2
        show g' ≠ g
        omega
    have cw' : cellH h' (eltP b w) = some (.int .i64 (C w : Nat)) := by
      have hd' : IntsV h' b m days := ⟨hml, by
        rcases (hd.ext y2).row with h1 | ⟨g', off, cur, ct, fr, h1, h2, h3⟩
        · exact .inl h1
        · exact .inr ⟨g', off, cur, ct, fr, h1, u.get h2 (hneb _ h1), h3⟩⟩
      have := hd'.cell (j := w) (by omega)
      rw [(hCd w (by omega)).1] at this
      exact this
    have hv : bitsI .xor .i64 (C i : Nat) (bitsI .xor .i64 (d : Nat) (C w : Nat)) = ((if C i = d then C w else d : Nat) : Int) := by
      obtain ⟨q1, q2⟩ := xor_two (hCd w (by omega)).2 (show d < 14 by omega)
      by_cases hcd : C i = d
      · rw [if_pos hcd, hcd]; exact q2
      · rw [if_neg hcd]
        rcases hic with h1 | h1
        · rw [h1]; exact q1
        · exact absurd h1 hcd
    simp only [he, hlt, cl, decide_true, Int.toNat_natCast, coreS, Value.cells, Value.oneCell', Nat.reduceAdd, Nat.reduceSub, Nat.reduceMul, Nat.reduceLeDiff, Int.reduceEq, Nat.reduceEqDiff, M20Fs39]
    refine ⟨by omega, sL, ?_⟩
    refine WP_draw (by kernel_rfl) sta_eq [(0, 0), (1, 0), (2, 0), (3, 0), (4, 0), (5, 0), (6, 0), (7, 0), (8, 0), (9, 0), (10, 0), (11, 0), (12, 1)] (by kernel_rfl) rfl (by kernel_rfl) ?_
    simp only [hb, hcell, cw', Int.toNat_natCast, hvK_eq, coreS, Value.cells, Value.oneCell', Nat.reduceAdd, Nat.reduceSub, Nat.reduceMul, Nat.reduceLeDiff, Int.reduceEq, Nat.reduceEqDiff, drawS, M20Fs39]
    refine ⟨⟨by omega, by omega⟩, rfl, ⟨by omega, by omega⟩, hdb, ⟨by omega, by omega⟩, rfl, ?_⟩
    rw [hv]
    refine stK_abs hb (by simp [Eng.ints_length, zsN_length]; omega) fun h5 g5 u5 => ?_
    have hsp : splice (Eng.ints (zsN ((List.range m).map (swj C w d (L.take j)))) ++ tl) i [.int .i64 ((if C i = d then C w else d : Nat) : Int)] = Eng.ints (zsN ((List.range m).map (swj C w d (L.take (j + 1))))) ++ tl := by
      have hln : i < (zsN ((List.range m).map (swj C w d (L.take j)))).length := by rw [zsN_length]; simp; omega
      rw [splice_one _ _ _ (by simp [Eng.ints_length, zsN_length]; omega), List.set_append_left _ _ (by rw [Eng.ints_length]; exact hln), Eng.ints_set]
      congr 2
      rw [List.take_add_one, List.getElem?_eq_getElem hjl, ← hi]
      have := sw_put (C := C) (w := w) (d := d) (l := L.take j) him1 (v := if C i = d then C w else d) rfl
      unfold zsN
      rw [← List.map_set, this]
      rfl
    rw [hsp] at g5
    simp only [he, hvK_eq, coreS, Value.cells, Value.oneCell', Nat.reduceAdd, Nat.reduceSub, Nat.reduceMul, Nat.reduceLeDiff, Int.reduceEq, Nat.reduceEqDiff, drawS, M20Fs39]
    refine ⟨by rw [inK_i64]; omega, roundK_mk (by kernel_rfl) ⟨u.trans u5, j + 1, by omega, rfl, g5⟩ ?_⟩
    show L.length - ((j : Int) + 1).toNat < L.length - (j : Int).toNat
    omega
  · obtain rfl : j = L.length := by omega
    have hlt : ¬ ((L.length : Int) < (L.length : Int)) := by omega
    rw [List.take_length] at hb
    simp only [he, hlt, decide_false, coreS, Value.cells, Value.oneCell', Nat.reduceAdd, Nat.reduceSub, Nat.reduceMul, Nat.reduceLeDiff, Int.reduceEq, Nat.reduceEqDiff, M20Fs39]
    have e5 : (List.range m).map (swj C w d L) = swL ws days (w : Int) (d : Int) := by
      unfold swL
      rw [Int.toNat_natCast, Int.toNat_natCast, ← hC, ← hL, show m = ws.length by omega]
    rw [e5] at hb
    refine ⟨⟨fun _ => ⟨some ⟨g, 0, none⟩, cap2, by rw [show m = ws.length by omega], ?_⟩, fun hne => absurd hE hne⟩, u.ext y2 (by omega)⟩
    have hll : (zsN (swL ws days (w : Int) (d : Int))).length = ws.length := by rw [zsN_length, swL_length]
    have := OwnI.of_block (m := h.size) (cap := cap2) (xs := zsN (swL ws days (w : Int) (d : Int))) (g := g) (tl := tl) (by omega) hb (by omega) (by omega)
    rwa [hll] at this
end Go.Proofs.Ytmgkeeefbfefgaa
