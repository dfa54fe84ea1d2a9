/- Walks: best, most, Fewest. -/
import Derived.Test.YtmgkeeefbfefgaaM7
import Derived.Test.YtmgkeeefbfefgaaML11
import Derived.Test.YtmgkeeefbfefgaaM11
namespace Go.Proofs.Ytmgkeeefbfefgaa
open Go Go.Proofs Go.Eng Go.Run Tab
set_option maxRecDepth 100000
set_option linter.unusedSimpArgs false
set_option linter.unusedVariables false
set_option linter.defProp false
set_option maxHeartbeats 1000000
set_option linter.defProp false
def M13Fs47 := (And.intro @agg24 (And.intro @inf24 @sz24))
def M13Fs82 := (And.intro (And.intro (And.intro @agg68 @inf3) (And.intro @inf68 @sz3)) (And.intro (And.intro @sz68 @zero68) (And.intro @Try.underlying3 @Try.underlying68)))
def M13Fs98 := (And.intro (And.intro @agg3 @by3) (And.intro @inf3 (And.intro @sz3 @Try.underlying25)))
def up1 (o x : Int) : Int := if o < x then x else o
theorem fold_up : ∀ (l : List Int) (o : Int), o ≤ l.foldl up1 o ∧ (∀ x ∈ l, x ≤ l.foldl up1 o) ∧ (l.foldl up1 o = o ∨ l.foldl up1 o ∈ l)
  | [], o => ⟨Int.le_refl _, by simp, .inl rfl⟩
  | y :: l, o => by
    obtain ⟨h1, h2, h3⟩ := fold_up l (up1 o y)
    have ho : o ≤ up1 o y ∧ y ≤ up1 o y := by unfold up1; split <;> omega
    have hy : up1 o y = o ∨ up1 o y = y := by unfold up1; split <;> simp
    simp only [List.foldl_cons, List.mem_cons]
    refine ⟨by omega, fun x hx => ?_, ?_⟩
    · rcases hx with rfl | hx
      · omega
      · exact h2 x hx
    · rcases h3 with h3 | h3
      · rw [h3]; rcases hy with hy | hy
        · exact .inl hy
        · exact .inr (.inl hy)
      · exact .inr (.inr h3)
/-- The greatest of some numbers. -/
def mxI (xs : List Int) : Int := (xs.drop 1).foldl up1 (xs.getD 0 0)
theorem mxI_ge {xs : List Int} {x : Int} (hx : x ∈ xs) : x ≤ mxI xs := by
  cases xs with
  | nil => cases hx
  | cons y l =>
    obtain ⟨h1, h2, _⟩ := fold_up l y
    show x ≤ l.foldl up1 y
    rcases List.mem_cons.1 hx with rfl | hx
    · exact h1
    · exact h2 x hx
theorem mxI_mem {xs : List Int} (h : 0 < xs.length) : mxI xs ∈ xs := by
  cases xs with
  | nil => simp at h
  | cons y l =>
    obtain ⟨_, _, h3⟩ := fold_up l y
    show l.foldl up1 y ∈ _
    rcases h3 with h3 | h3
    · rw [h3]; simp
    · exact List.mem_cons_of_mem _ h3
theorem more97 (x y : Int) (h : Eng.Heap) : CallsH Try.prog 97 #[.int .i64 x, .int .i64 y] h (fun v h' => v = .bool (decide (y < x)) ∧ h' = h) := by
  (refine CallsH_of_exec Try.func97 rfl bod97 ?_; simp only [Try.ntmps97, Try.results97, coreS, stK_some, splice, Value.cells, Value.oneCell', Nat.reduceAdd, Nat.reduceSub, Nat.reduceMul, Nat.reduceLeDiff, Int.reduceEq, Nat.reduceEqDiff])
theorem best98 (a : Option Addr) (n c : Nat) (xs : List Int) (h : Eng.Heap) (hd : IntsV h a n xs) (h1 : 0 < n) (hc : n ≤ c) (hl : n ≤ 1000000) :
    CallsH Try.prog 98 #[.slice a n c, .func (.func 97) #[] #[]] h (fun v h' => v = .int .i64 (mxI xs) ∧ h' = h) := by
  have hml := hd.len
  (refine CallsH_of_exec Try.func98 rfl bod98 ?_; simp only [Try.ntmps98, Try.results98, coreS, stK_some, splice, Value.cells, Value.oneCell', Nat.reduceAdd, Nat.reduceSub, Nat.reduceMul, Nat.reduceLeDiff, Int.reduceEq, Nat.reduceEqDiff, M13Fs98])
  have c0 := hd.cell (j := 0) (by omega)
  have hsm := hd.isSome (by omega)
  have hsl := intsV_slice (lo := 1) (hi := n) (c := c) hd (by omega) (Nat.le_refl _) hc
  have e1 : ((n : Int) - 1).toNat = n - 1 := by omega
  have e2 : ((c : Int) - 1).toNat = c - 1 := by omega
  have ht : (xs.drop 1).take (n - 1) = xs.drop 1 := List.take_of_length_le (by simp; omega)
  rw [ht] at hsl
  obtain ⟨sl, hsle⟩ : ∃ sl, sl = (if (c : Int) = ((1 : Nat) : Int) then a else eltP a 1) := ⟨_, rfl⟩
  have hsle2 : (if (c : Int) = 1 then a else eltP a 1) = sl := by rw [hsle]; rfl
  rw [← hsle] at hsl
  simp only [c0, e1, e2, hsle2, coreS, Value.cells, Value.oneCell', Nat.reduceAdd, Nat.reduceSub, Nat.reduceMul, Nat.reduceLeDiff, Int.reduceEq, Nat.reduceEqDiff, M13Fs98]
  refine ⟨⟨by omega, by omega⟩, hsm, by omega, by omega, by omega, by omega, ?_⟩
  refine WP_loopI [5, 7, 14, 15, 16, 17, 18, 19, 20, 21, 22, 23] (fun e h' => h' = h ∧ ∃ i : Nat, i ≤ n - 1 ∧ e 14 = .int .i64 i ∧ e 5 = .int .i64 (((xs.drop 1).take i).foldl up1 (xs.getD 0 0))) (fun e _ => match e 14 with | .int _ q => (n - 1) - q.toNat | _ => 0) ⟨rfl, 0, by omega, rfl, rfl⟩ ?_
  rintro e h' ⟨rfl, i, hi, he, he5⟩
  have hdl : (xs.drop 1).length = n - 1 := by simp; omega
  by_cases hil : i < (xs.drop 1).length
  · have hlt : (i : Int) < ((n - 1 : Nat) : Int) := by omega
    have c1 := hsl.cell hil
    have hss := hsl.isSome (by omega)
    have hnx : ((xs.drop 1).take (i + 1)).foldl up1 (xs.getD 0 0) = up1 (((xs.drop 1).take i).foldl up1 (xs.getD 0 0)) ((xs.drop 1).getD i 0) := by
      rw [List.take_add_one, List.getElem?_eq_getElem hil, List.foldl_append]
      simp only [Option.toList_some, List.foldl_cons, List.foldl_nil]
      rw [List.getD_eq_getElem?_getD, List.getD_eq_getElem?_getD, List.getElem?_eq_getElem hil]
      rfl
    simp only [he, he5, hlt, c1, decide_true, Int.toNat_natCast, coreS, Value.cells, Value.oneCell', Nat.reduceAdd, Nat.reduceSub, Nat.reduceMul, Nat.reduceLeDiff, Int.reduceEq, Nat.reduceEqDiff, M13Fs98]
    refine ⟨by omega, hss, ?_⟩
    refine CallsH.mono (more97 _ _ h') ?_
    rintro v h2 ⟨rfl, rfl⟩
    by_cases hm : (((xs.drop 1).take i).foldl up1 (xs.getD 0 0)) < (xs.drop 1).getD i 0
    · simp only [hm, he, decide_true, coreS, Value.cells, Value.oneCell', Nat.reduceAdd, Nat.reduceSub, Nat.reduceMul, Nat.reduceLeDiff, Int.reduceEq, Nat.reduceEqDiff, M13Fs98]
      refine ⟨by rw [inK_i64]; omega, roundK_mk (by kernel_rfl) ⟨rfl, i + 1, by omega, rfl, ?_⟩ ?_⟩
      · rw [hnx, up1, if_pos hm]; rfl
      · show (n - 1) - ((i : Int) + 1).toNat < (n - 1) - (i : Int).toNat
        omega
    · simp only [hm, he, decide_false, coreS, Value.cells, Value.oneCell', Nat.reduceAdd, Nat.reduceSub, Nat.reduceMul, Nat.reduceLeDiff, Int.reduceEq, Nat.reduceEqDiff, M13Fs98]
      refine ⟨by rw [inK_i64]; omega, roundK_mk (by kernel_rfl) ⟨rfl, i + 1, by omega, rfl, ?_⟩ ?_⟩
      · rw [hnx, up1, if_neg hm]; rfl
      · show (n - 1) - ((i : Int) + 1).toNat < (n - 1) - (i : Int).toNat
        omega
  · obtain rfl : i = n - 1 := by omega
    have hlt : ¬ (((n - 1 : Nat) : Int) < ((n - 1 : Nat) : Int)) := by omega
    rw [List.take_of_length_le (by omega)] at he5
    simp only [he, he5, hlt, decide_false, coreS, Value.cells, Value.oneCell', Nat.reduceAdd, Nat.reduceSub, Nat.reduceMul, Nat.reduceLeDiff, Int.reduceEq, Nat.reduceEqDiff, M13Fs98]
    rfl
/-- The greatest load. -/
def gld (ws : List Wn) : Nat := (max (mxI (ldL (shN ws) 6 ws.length)) (mxI (ldL (moN ws) 6 ws.length))).toNat
theorem ldL_mem {f : Nat → Nat} {S i x : Nat} (hx : x < S) : (MB.load f i x : Int) ∈ ldL f S i := List.mem_map.2 ⟨x, List.mem_range.2 hx, rfl⟩
theorem mem_ldL {f : Nat → Nat} {S i : Nat} {y : Int} (h : y ∈ ldL f S i) : ∃ x, x < S ∧ y = (MB.load f i x : Nat) := by
  obtain ⟨x, hx, rfl⟩ := List.mem_map.1 h
  exact ⟨x, List.mem_range.1 hx, rfl⟩
theorem mxI_ld (f : Nat → Nat) (i : Nat) : ∃ x, x < 6 ∧ mxI (ldL f 6 i) = (MB.load f i x : Nat) := mem_ldL (mxI_mem (by rw [ldL_length]; omega))
theorem gld_cast (ws : List Wn) : ((gld ws : Nat) : Int) = max (mxI (ldL (shN ws) 6 ws.length)) (mxI (ldL (moN ws) 6 ws.length)) := by
  obtain ⟨x, _, h1⟩ := mxI_ld (shN ws) ws.length
  obtain ⟨y, _, h2⟩ := mxI_ld (moN ws) ws.length
  unfold gld
  rw [h1, h2]
  omega
theorem gld_great {S M : Nat} {ws : List Wn} (V : Vb S M ws) : MB.Great (shN ws) (moN ws) ws.length (gld ws) := by
  have hg := gld_cast ws
  have hS := V.s2
  have hM := V.m2
  refine ⟨fun s => ?_, fun m => ?_, ?_⟩
  · by_cases h0 : 0 < MB.load (shN ws) ws.length s
    · obtain ⟨i, hi, rfl⟩ := MB.pos_load h0
      have := (V.s hi).2
      have := mxI_ge (ldL_mem (f := shN ws) (S := 6) (i := ws.length) (x := shN ws i) (by omega))
      omega
    · omega
  · by_cases h0 : 0 < MB.load (moN ws) ws.length m
    · obtain ⟨i, hi, rfl⟩ := MB.pos_load h0
      have := (V.m hi).2
      have := mxI_ge (ldL_mem (f := moN ws) (S := 6) (i := ws.length) (x := moN ws i) (by omega))
      omega
    · omega
  · obtain ⟨x, _, h1⟩ := mxI_ld (shN ws) ws.length
    obtain ⟨y, _, h2⟩ := mxI_ld (moN ws) ws.length
    by_cases h : mxI (ldL (shN ws) 6 ws.length) ≤ mxI (ldL (moN ws) 6 ws.length)
    · exact .inr (.inr ⟨y, by omega⟩)
    · exact .inr (.inl ⟨x, by omega⟩)
theorem gld_le {S M : Nat} {ws : List Wn} (V : Vb S M ws) : gld ws ≤ ws.length := by
  rcases (gld_great V).is with h | ⟨s, h⟩ | ⟨s, h⟩
  · omega
  · rw [← h]; exact MB.cnt_le _ _
  · rw [← h]; exact MB.cnt_le _ _
theorem gld_nil {S M : Nat} {ws : List Wn} (V : Vb S M ws) (h : ldL (shN ws) 6 ws.length = List.replicate 6 0) : gld ws = 0 := by
  by_cases hn : 0 < ws.length
  · have h1 := MB.load_pos (f := shN ws) hn
    have hs := (V.s hn).2
    have hS := V.s2
    have h2 := ldL_get (f := shN ws) (S := 6) (i := ws.length) (x := shN ws 0) (by omega)
    rw [h] at h2
    have h3 : (List.replicate 6 (0 : Int)).getD (shN ws 0) 0 = 0 := by rw [List.getD_eq_getElem?_getD, List.getElem?_replicate]; split <;> rfl
    omega
  · have := gld_le V
    omega
theorem most82 (g b S M : Nat) (a : Option Addr) (n c : Nat) (ws : List Wn) (h : Eng.Heap) (hg : DeskB h g b S M a n c) (hr : Row h a (wsV ws)) (hn : n = ws.length) (V : Vb S M ws) :
    CallsH Try.prog 82 #[.pointer (some ⟨g, 0, none⟩)] h (fun v h' => v = .int .i64 (gld ws : Nat) ∧ Ext h h') := by
  (refine CallsH_of_exec Try.func82 rfl bod82 ?_; simp only [Try.ntmps82, Try.results82, coreS, stK_some, splice, Value.cells, Value.oneCell', Nat.reduceAdd, Nat.reduceSub, Nat.reduceMul, Nat.reduceLeDiff, Int.reduceEq, Nat.reduceEqDiff, M13Fs82])
  refine CallsH.mono (loads50 g b S M a n c ws h hg hr hn V) ?_
  rintro v h2 ⟨rfl, x2⟩
  have l1 : (ldv (shN ws) 6 n).length = 6 := ldv_length
  have l2 : (ldv (moN ws) 6 n).length = 6 := ldv_length
  have sp : ∀ f : Nat → Nat, splice [.int .i64 0, .int .i64 0, .int .i64 0, .int .i64 0, .int .i64 0, .int .i64 0] 0 (ldv f 6 n) = ldv f 6 n := fun f => by
    simp [splice, ldv_length]
  simp only [l1, l2, ldv_one, List.size_toArray, List.toList_toArray, coreS, Value.cells, Value.oneCell', Nat.reduceAdd, Nat.reduceSub, Nat.reduceMul, Nat.reduceLeDiff, Int.reduceEq, Nat.reduceEqDiff, M13Fs82]
  have p0 : ((h2.push (.cells #[.int .i64 0, .int .i64 0, .int .i64 0, .int .i64 0, .int .i64 0, .int .i64 0] 68)).push (.cells #[.int .i64 0, .int .i64 0, .int .i64 0, .int .i64 0, .int .i64 0, .int .i64 0] 68))[h2.size]? = some (.cells #[.int .i64 0, .int .i64 0, .int .i64 0, .int .i64 0, .int .i64 0, .int .i64 0] 68) := pn0
  refine stK_abs p0 (by simp [l1]) fun h3 g3 u3 => ?_
  rw [sp] at g3
  have p1 : h3[h2.size + 1]? = some (.cells #[.int .i64 0, .int .i64 0, .int .i64 0, .int .i64 0, .int .i64 0, .int .i64 0] 68) := u3.get pn1 (by omega)
  simp only [p1, l1, l2, ldv_one, List.size_toArray, List.toList_toArray, coreS, Value.cells, Value.oneCell', Nat.reduceAdd, Nat.reduceSub, Nat.reduceMul, Nat.reduceLeDiff, Int.reduceEq, Nat.reduceEqDiff, M13Fs82]
  refine stK_abs p1 (by simp [l2]) fun h4 g4 u4 => ?_
  rw [sp] at g4
  have g3' := u4.get g3 (by omega)
  have x4 : Ext h2 h4 := u4.ext (u3.ext (((Ext.refl h2).push _).push _) (by omega)) (by omega)
  have y4 := x2.trans x4
  clear u3 u4 g3 p0 p1
  have k1 := cesO_cells (c := ldv (shN ws) 6 n) (ct := 68) (fr := (0, 0)) (show 0 + 6 ≤ _ by rw [l1]; omega)
  have t1 : List.take 6 (ldv (shN ws) 6 n) = ldv (shN ws) 6 n := List.take_of_length_le (by rw [ldv_length]; exact Nat.le_refl _)
  simp only [List.drop_zero, t1] at k1
  simp only [g3', k1, coreS, Value.cells, Value.oneCell', Nat.reduceAdd, Nat.reduceSub, Nat.reduceMul, Nat.reduceLeDiff, Int.reduceEq, Nat.reduceEqDiff, M13Fs82]
  have okf68 : okFields Try.prog 68 = false := by kernel_rfl
  simp only [okf68, bldO_no]
  refine build_zeroT (z := Eng.ints (List.replicate 6 0)) Try.underlying68 inf3 zero68 ?_
  simp only [coreS, Value.cells, Value.oneCell', Nat.reduceAdd, Nat.reduceSub, Nat.reduceMul, Nat.reduceLeDiff, Int.reduceEq, Nat.reduceEqDiff, M13Fs82]
  refine eqIntsW (xs := ldL (shN ws) 6 n) (ys := List.replicate 6 0) Pt.ok (ti := (Pt.pr.ty 68).getD ⟨0, 0, .any, .other, []⟩) (by kernel_rfl) (by rw [ldL_length]; rfl) (by rw [ldL_length]; omega) (by rw [ldL_length]; kernel_rfl) (by rfl) (by rfl) ?_
  simp only [coreS, Value.cells, Value.oneCell', Nat.reduceAdd, Nat.reduceSub, Nat.reduceMul, Nat.reduceLeDiff, Int.reduceEq, Nat.reduceEqDiff, M13Fs82]
  refine ⟨fun he => ?_, fun he => ?_⟩
  · have hgn := gld_nil V (by rw [← hn]; exact he)
    rw [hgn]
    exact ⟨rfl, y4⟩
  · have z6 : (((6 : Nat) : Int) = ((0 : Nat) : Int)) = False := by simp
    have f6 : (((6 : Nat) : Int) - ((0 : Nat) : Int)).toNat = 6 := by decide
    have i1 : IntsV h4 (some ⟨h2.size, 0, none⟩) 6 (ldL (shN ws) 6 n) := by
      have := IntsV.block (xs := ldL (shN ws) 6 n) g3'
      rwa [ldL_length] at this
    have i2 : IntsV h4 (some ⟨h2.size + 1, 0, none⟩) 6 (ldL (moN ws) 6 n) := by
      have := IntsV.block (xs := ldL (moN ws) 6 n) g4
      rwa [ldL_length] at this
    refine WP_draw (by kernel_rfl) sta_eq [(0, 0), (1, 0), (2, 0), (3, 0), (4, 0), (5, 0), (6, 0), (7, 0)] (by kernel_rfl) rfl (by kernel_rfl) ?_
    simp only [z6, f6, if_false, hvK_eq, coreS, Value.cells, Value.oneCell', Nat.reduceAdd, Nat.reduceSub, Nat.reduceMul, Nat.reduceLeDiff, Int.reduceEq, Nat.reduceEqDiff, drawS, M13Fs82]
    refine ⟨by omega, by omega, by omega, by omega, ?_⟩
    refine cQ_same _ (best98 _ 6 6 _ h4 i1 (by omega) (by omega) (by omega)) ?_
    simp only [z6, f6, if_false, hvK_eq, coreS, Value.cells, Value.oneCell', Nat.reduceAdd, Nat.reduceSub, Nat.reduceMul, Nat.reduceLeDiff, Int.reduceEq, Nat.reduceEqDiff, drawS, M13Fs82]
    refine ⟨by omega, by omega, by omega, by omega, ?_⟩
    refine cQ_same _ (best98 _ 6 6 _ h4 i2 (by omega) (by omega) (by omega)) ?_
    have hgc := gld_cast ws
    rw [← hn] at hgc
    simp only [hvK_eq, coreS, Value.cells, Value.oneCell', Nat.reduceAdd, Nat.reduceSub, Nat.reduceMul, Nat.reduceLeDiff, Int.reduceEq, Nat.reduceEqDiff, drawS, M13Fs82]
    refine ⟨?_, y4⟩
    rw [hgc]
    congr 1
    split <;> omega
theorem fewest47 (S M : Int) (a : Option Addr) (n c : Nat) (ws : List Wn) (h : Eng.Heap) (hr : Row h a (wsV ws)) (hn : n = ws.length) (hl : n ≤ 1000000) :
    CallsH Try.prog 47 #[.agg #[.int .i64 S, .int .i64 M, .slice a n c]] h (fun v h' => v = .tuple #[.int .i64 (if chk S M ws = 0 then (gld ws : Nat) else 0), .int .i64 (chk S M ws)] ∧ Ext h h') := by
  (refine CallsH_of_exec Try.func47 rfl bod47 ?_; simp only [Try.ntmps47, Try.results47, coreS, stK_some, splice, Value.cells, Value.oneCell', Nat.reduceAdd, Nat.reduceSub, Nat.reduceMul, Nat.reduceLeDiff, Int.reduceEq, Nat.reduceEqDiff, M13Fs47])
  have x0 : Ext h (h.push (.cells #[.int .i64 S, .int .i64 M, .slice a n c] 24)) := (Ext.refl h).push _
  refine CallsH.mono (open49 S M a n c ws _ (hr.push _) hn hl) ?_
  rintro v h1 ⟨x1, ⟨s, m, rfl, rfl, V, g, b, rfl, hg, hmb, hgs, hbs⟩ | ⟨hc, rfl⟩⟩
  · have y1 := x0.trans x1
    simp only [Bool.not_true, decide_true, coreS, Value.cells, Value.oneCell', Nat.reduceAdd, Nat.reduceSub, Nat.reduceMul, Nat.reduceLeDiff, Int.reduceEq, Nat.reduceEqDiff, M13Fs47]
    refine CallsH.mono (most82 g b s m a n c ws h1 hg (hr.ext y1) hn V) ?_
    rintro v h2 ⟨rfl, x2⟩
    simp only [V.chk, if_true, coreS, Value.cells, Value.oneCell', Nat.reduceAdd, Nat.reduceSub, Nat.reduceMul, Nat.reduceLeDiff, Int.reduceEq, Nat.reduceEqDiff, M13Fs47]
    exact y1.trans x2
  · simp only [hc, decide_false, Bool.not_false, if_false, coreS, Value.cells, Value.oneCell', Nat.reduceAdd, Nat.reduceSub, Nat.reduceMul, Nat.reduceLeDiff, Int.reduceEq, Nat.reduceEqDiff, M13Fs47]
    exact x0.trans x1
end Go.Proofs.Ytmgkeeefbfefgaa
