/- Walks: Short. -/
import Derived.Test.YtmgkeeefbfefgaaPDQM37
import Derived.Test.YtmgkeeefbfefgaaPD12
namespace Go.Proofs.Ytmgkeeefbfefgaa
open Go Go.Proofs Go.Eng Go.Run Tab
set_option maxRecDepth 100000
set_option linter.unusedSimpArgs false
set_option linter.unusedVariables false
set_option linter.defProp false
set_option maxHeartbeats 2000000
set_option linter.defProp false
def M39Fs34 := (And.intro (And.intro (And.intro @agg24 @agg68) (And.intro @inf24 @inf68)) (And.intro (And.intro @sz24 @sz68) (And.intro @zero68 @Try.underlying25)))
def M39Fs78 := (And.intro (And.intro @agg3 @inf3) (And.intro @sz3 @Try.underlying68))
theorem load0_78 (bt : Nat) (ws : List Wn) (n x : Nat) (h : Eng.Heap) (hb : h[bt]? = some (.cells (ldv (shN ws) 6 n).toArray 68)) (hx : x < 6) :
    CallsH Try.prog 78 (#[] ++ #[.int .i64 (x : Nat)] ++ #[.pointer (some ⟨bt, 0, none⟩)]) h (fun v h' => v = .bool (decide (MB.load (shN ws) n x = 0)) ∧ h' = h) := by
  simp only [Array.append_empty, Array.empty_append, List.append_toArray, List.cons_append, List.nil_append]
  (refine CallsH_of_exec Try.func78 rfl bod78 ?_; simp only [Try.ntmps78, Try.results78, coreS, stK_some, splice, Value.cells, Value.oneCell', Nat.reduceAdd, Nat.reduceSub, Nat.reduceMul, Nat.reduceLeDiff, Int.reduceEq, Nat.reduceEqDiff, M39Fs78])
  have e := ldv_get (f := shN ws) (S := 6) (i := n) hx
  simp only [hb, e, Int.toNat_natCast, coreS, Value.cells, Value.oneCell', Nat.reduceAdd, Nat.reduceSub, Nat.reduceMul, Nat.reduceLeDiff, Int.reduceEq, Nat.reduceEqDiff, M39Fs78]
  refine ⟨by omega, ?_⟩
  congr 1
  rw [decide_eq_decide]
  omega
/-- The shops that Short returns, before they are sorted. -/
def shF (ws : List Wn) (X : List Nat) : List Nat := X.filter fun s => decide (0 < MB.load (shN ws) ws.length s)
theorem shF_zs {ws : List Wn} {X : List Nat} : (zsN X).filter (fun x => !(decide (MB.load (shN ws) ws.length x.toNat = 0))) = zsN (shF ws X) := by
  unfold zsN shF
  rw [List.filter_map]
  congr 1
  refine List.filter_congr fun k _ => ?_
  simp only [Function.comp, Int.toNat_natCast]
  by_cases h : MB.load (shN ws) ws.length k = 0
  · simp [h]
  · simp [h]; omega
/-- What Short returns: shops with wants, rising; they are as many more than their moulds as shops with wants are more than the wants of a best list. -/
structure ShP (S M : Nat) (ws : List Wn) (F : List Nat) : Prop where
  up : F.Pairwise (· < ·)
  lt : ∀ s ∈ F, s < S ∧ 0 < MB.load (shN ws) ws.length s
  n : F.length + (lsN S M ws).length = (MB.wnt (shN ws) ws.length S).length + (MB.wtd (shN ws) (moN ws) ws.length M F).length
theorem wtd_mem {sh mo : Nat → Nat} {n M : Nat} {l k : List Nat} (h : ∀ x, x ∈ l ↔ x ∈ k) : MB.wtd sh mo n M l = MB.wtd sh mo n M k := by
  unfold MB.wtd
  refine List.filter_congr fun m _ => ?_
  congr 1
  funext i
  congr 1
  rw [Bool.eq_iff_iff, List.contains_iff_mem, List.contains_iff_mem]
  exact h _
theorem shF_ShP {S M : Nat} {ws : List Wn} {X Y Z : List Nat} (V : Vb S M ws) (A : MB.Alt (shN ws) (moN ws) ws.length M S (MB.mst (shN ws) (moN ws) (List.range ws.length) M S) X Y) (hZ : Z.Perm (shF ws X)) (hs : Z.Pairwise (· < ·)) : ShP S M ws Z ∧ ((lsN S M ws).length = (MB.wnt (shN ws) ws.length S).length → Z = []) := by
  have hsh : ∀ i, i < ws.length → shN ws i < S := fun i hi => (V.s hi).2
  have hmo : ∀ i, i < ws.length → moN ws i < M := fun i hi => (V.m hi).2
  have I := MB.match_inv (sh := shN ws) (mo := moN ws) (sm := List.range ws.length) (M := M) (fun k hk => (V.m (List.mem_range.1 hk)).2) S
  have h1 := A.short I hsh hmo
  have h2 := A.wtd hsh hmo
  have hl := lsN_length V
  have e : mxv S M ws (List.range ws.length) = MB.size M (MB.mst (shN ws) (moN ws) (List.range ws.length) M S) := rfl
  rw [e] at hl
  refine ⟨⟨hs, fun s hm => ?_, ?_⟩, fun hh => ?_⟩
  · obtain ⟨k1, k2⟩ := List.mem_filter.1 (hZ.subset hm)
    exact ⟨((A.xs s).1 k1).1, of_decide_eq_true k2⟩
  · rw [wtd_mem (l := Z) (k := shF ws X) fun x => hZ.mem_iff, hZ.length_eq]
    unfold shF
    rw [h2, hl]
    exact h1
  · have := A.none I hsh (by rw [← hl]; exact hh)
    unfold shF at hZ
    rw [this] at hZ
    exact List.perm_nil.1 hZ
theorem short34 (S M : Int) (a : Option Addr) (n c : Nat) (ws : List Wn) (h : Eng.Heap) (hr : Row h a (wsV ws)) (hn : n = ws.length) (hl : n ≤ 1000000) :
    CallsH Try.prog 34 #[.agg #[.int .i64 S, .int .i64 M, .slice a n c]] h (fun v h' =>
      ((∃ s m : Nat, S = s ∧ M = m ∧ Vb s m ws ∧ ∃ F : List Nat, ShP s m ws F ∧ ((lsN s m ws).length = (MB.wnt (shN ws) ws.length s).length ↔ F = []) ∧
          ((F = [] ∧ v = .tuple #[.slice none 0 0, .int .i64 5]) ∨ (F ≠ [] ∧ ∃ aF cF, v = .tuple #[.slice aF F.length cF, .int .i64 0] ∧ IntsV h' aF F.length (zsN F)))) ∨
       (chk S M ws ≠ 0 ∧ v = .tuple #[.slice none 0 0, .int .i64 (chk S M ws)])) ∧ Ext h h') := by
  (refine CallsH_of_exec Try.func34 rfl bod34 ?_; simp only [Try.ntmps34, Try.results34, coreS, stK_some, splice, Value.cells, Value.oneCell', Nat.reduceAdd, Nat.reduceSub, Nat.reduceMul, Nat.reduceLeDiff, Int.reduceEq, Nat.reduceEqDiff, M39Fs34])
  have x0 : Ext h (h.push (.cells #[.int .i64 S, .int .i64 M, .slice a n c] 24)) := (Ext.refl h).push _
  refine CallsH.mono (open49 S M a n c ws _ (hr.ext x0) hn hl) ?_
  rintro v h1 ⟨x1, H⟩
  have y1 := x0.trans x1
  have hb1 := x1.get (push_new (h := h))
  rcases H with ⟨s, m, rfl, rfl, V, g, b, rfl, hg1, hm1, hgs, hbs⟩ | ⟨hc, rfl⟩
  case inr =>
    simp only [hc, decide_false, Bool.not_false, coreS, Value.cells, Value.oneCell', Nat.reduceAdd, Nat.reduceSub, Nat.reduceMul, Nat.reduceLeDiff, Int.reduceEq, Nat.reduceEqDiff, M39Fs34]
    exact ⟨.inr hc, y1⟩
  have hV := V.n
  have v1 := V.s1
  have v2 := V.s2
  simp only [decide_true, Bool.not_true, coreS, Value.cells, Value.oneCell', Nat.reduceAdd, Nat.reduceSub, Nat.reduceMul, Nat.reduceLeDiff, Int.reduceEq, Nat.reduceEqDiff, M39Fs34]
  refine CallsH.mono (alternating72 g b s m a n c ws h1 hg1 (hr.ext y1) hn V) ?_
  rintro v h2 ⟨⟨aX, cX, X, aY, cY, Y, rfl, OX, OY, D, A⟩, x2⟩
  have y2 := y1.trans x2
  have hXs : X.length ≤ s := by
    have := MB.nodup_le (m := List.range s) A.xn fun x hx => List.mem_range.2 ((A.xs x).1 hx).1
    rwa [List.length_range] at this
  simp only [coreS, Value.cells, Value.oneCell', Nat.reduceAdd, Nat.reduceSub, Nat.reduceMul, Nat.reduceLeDiff, Int.reduceEq, Nat.reduceEqDiff, M39Fs34]
  refine CallsH.mono (loads50 g b s m a n c ws h2 (x2.get hg1) (hr.ext y2) hn V) ?_
  rintro v h3 ⟨rfl, x3⟩
  have l1 : (ldv (shN ws) 6 n).length = 6 := ldv_length
  have l2 : (ldv (moN ws) 6 n).length = 6 := ldv_length
  have sp : ∀ f : Nat → Nat, splice [.int .i64 0, .int .i64 0, .int .i64 0, .int .i64 0, .int .i64 0, .int .i64 0] 0 (ldv f 6 n) = ldv f 6 n := fun f => by
    simp [splice, ldv_length]
  simp only [l1, l2, ldv_one, List.size_toArray, List.toList_toArray, coreS, Value.cells, Value.oneCell', Nat.reduceAdd, Nat.reduceSub, Nat.reduceMul, Nat.reduceLeDiff, Int.reduceEq, Nat.reduceEqDiff, M39Fs34]
  have p0 : ((h3.push (.cells #[.int .i64 0, .int .i64 0, .int .i64 0, .int .i64 0, .int .i64 0, .int .i64 0] 68)).push (.cells #[.int .i64 0, .int .i64 0, .int .i64 0, .int .i64 0, .int .i64 0, .int .i64 0] 68))[h3.size]? = some (.cells #[.int .i64 0, .int .i64 0, .int .i64 0, .int .i64 0, .int .i64 0, .int .i64 0] 68) := pn0
  refine stK_abs p0 (by simp [l1]) fun h4 g4 u4 => ?_
  rw [sp] at g4
  have p1 : h4[h3.size + 1]? = some (.cells #[.int .i64 0, .int .i64 0, .int .i64 0, .int .i64 0, .int .i64 0, .int .i64 0] 68) := u4.get pn1 (by omega)
  simp only [p1, l1, l2, ldv_one, List.size_toArray, List.toList_toArray, coreS, Value.cells, Value.oneCell', Nat.reduceAdd, Nat.reduceSub, Nat.reduceMul, Nat.reduceLeDiff, Int.reduceEq, Nat.reduceEqDiff, M39Fs34]
  refine stK_abs p1 (by simp [l2]) fun h5 g5 u5 => ?_
  rw [sp] at g5
  have g4' := u5.get g4 (by omega)
  have x5 : Ext h3 h5 := u5.ext (u4.ext (((Ext.refl h3).push _).push _) (by omega)) (by omega)
  have x25 := x3.trans x5
  clear u4 u5 g4 p0 p1
  have OX5 := OX.ext x25
  have hXlt : ∀ p, aX = some p → p.block < h2.size ∧ h1.size ≤ p.block := fun p hp => OX.lt hp
  have hs3 : h2.size ≤ h3.size := x3.size
  simp only [coreS, Value.cells, Value.oneCell', Nat.reduceAdd, Nat.reduceSub, Nat.reduceMul, Nat.reduceLeDiff, Int.reduceEq, Nat.reduceEqDiff, M39Fs34]
  refine CallsH.mono (deleteFunc62g h1.size X.length cX aX (zsN X) 78 #[.pointer (some ⟨h3.size, 0, none⟩)] (fun x => decide (MB.load (shN ws) ws.length x.toNat = 0)) h5 OX5 (by omega) ?_) ?_
  · intro x hx hh ⟨k1, k2⟩
    obtain ⟨y, hy, rfl⟩ := List.mem_map.1 hx
    have hys : y < s := ((A.xs y).1 hy).1
    have := k2 h3.size (lt_of_get g4') fun p hp => by have := (hXlt p hp).1; omega
    refine CallsH.mono (load0_78 h3.size ws n y hh (this.trans g4') (by omega)) ?_
    rintro v h6 ⟨rfl, rfl⟩
    exact ⟨by rw [hn, Int.toNat_natCast], rfl⟩
  rintro v h6 ⟨⟨k1, k2⟩, a6, c6, rfl, O6⟩
  rw [shF_zs] at O6
  rw [shF_zs]
  have x6 : Ext h h6 := ⟨Nat.le_trans (y2.trans x25).size k1, fun b hb => (k2 b (Nat.lt_of_lt_of_le hb (y2.trans x25).size) fun p hp => by have := (hXlt p hp).2; have := y1.size; omega).trans ((y2.trans x25).old b hb)⟩
  rw [zsN_length] at O6
  rw [zsN_length]
  have hFs : (shF ws X).length ≤ X.length := List.length_filter_le _ _
  by_cases hF : (shF ws X).length = 0
  · have hF0 := List.length_eq_zero_iff.1 hF
    have hz : (((shF ws X).length : Nat) : Int) = 0 := by omega
    simp only [hz, decide_true, coreS, Value.cells, Value.oneCell', Nat.reduceAdd, Nat.reduceSub, Nat.reduceMul, Nat.reduceLeDiff, Int.reduceEq, Nat.reduceEqDiff, M39Fs34]
    obtain ⟨P1, P2⟩ := shF_ShP V A (Z := []) (by rw [hF0]) List.Pairwise.nil
    refine ⟨.inl ⟨s, m, rfl, rfl, V, [], P1, ⟨fun _ => rfl, fun _ => ?_⟩, .inl rfl⟩, x6⟩
    have := P1.n
    have hw : MB.wtd (shN ws) (moN ws) ws.length m [] = [] := by
      unfold MB.wtd
      rw [List.filter_eq_nil_iff]
      intro a _
      simp
    rw [hw] at this
    simpa using this
  · have hz : ¬ (((shF ws X).length : Nat) : Int) = 0 := by omega
    simp only [hz, decide_false, coreS, Value.cells, Value.oneCell', Nat.reduceAdd, Nat.reduceSub, Nat.reduceMul, Nat.reduceLeDiff, Int.reduceEq, Nat.reduceEqDiff, M39Fs34]
    refine CallsH.mono (sort73_own2 h1.size _ _ _ _ h6 O6 (by omega)) ?_
    rintro v h7 ⟨rfl, ⟨q1, q2⟩, ys, hp, hs, O7⟩
    have hnd : (shF ws X).Nodup := List.Pairwise.filter _ A.xn
    obtain ⟨Z, rfl, hZ, hZs⟩ := srt_zs hp hs hnd
    obtain ⟨P1, P2⟩ := shF_ShP V A hZ hZs
    have hZl := hZ.length_eq
    have x7 : Ext h h7 := ⟨Nat.le_trans x6.size q1, fun b hb => (q2 b (Nat.lt_of_lt_of_le hb x6.size) fun p hp => by have := (O6.lt hp).2; have := y1.size; omega).trans (x6.old b hb)⟩
    have hZ0 : Z ≠ [] := fun e => hF (by rw [← hZl, e]; rfl)
    simp only [coreS, Value.cells, Value.oneCell', Nat.reduceAdd, Nat.reduceSub, Nat.reduceMul, Nat.reduceLeDiff, Int.reduceEq, Nat.reduceEqDiff, M39Fs34]
    refine ⟨.inl ⟨s, m, rfl, rfl, V, Z, P1, ⟨P2, fun e => absurd e hZ0⟩, .inr ⟨hZ0, a6, c6, by rw [hZl], by rw [hZl]; exact O7.ints⟩⟩, x7⟩
end Go.Proofs.Ytmgkeeefbfefgaa
