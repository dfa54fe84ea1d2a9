/- Walks: CheckShort of the program. -/
import Derived.Test.YtmgkeeefbfefgaaPDQM39
namespace Go.Proofs.Ytmgkeeefbfefgaa
open Go Go.Proofs Go.Eng Go.Run Tab
set_option maxRecDepth 100000
set_option linter.unusedSimpArgs false
set_option linter.unusedVariables false
set_option linter.defProp false
set_option maxHeartbeats 2000000
set_option linter.defProp false
def M40Fs32 := (And.intro (And.intro (And.intro (And.intro @agg22 (And.intro @agg24 @agg3)) (And.intro @agg58 (And.intro @agg68 @by58))) (And.intro (And.intro @fo24_0 (And.intro @fo24_2 @fo58_0)) (And.intro @fo58_1 (And.intro @inf22 @inf24)))) (And.intro (And.intro (And.intro @inf3 (And.intro @inf58 @inf68)) (And.intro @sz22 (And.intro @sz24 @sz3))) (And.intro (And.intro @sz58 (And.intro @sz68 @zero58)) (And.intro (And.intro @zero68 @Try.underlying22) (And.intro @Try.underlying25 @Try.underlying68)))))
def M40Fs76 := (And.intro (And.intro @agg3 @inf3) (And.intro @sz3 @Try.underlying68))
open Classical in
/-- The error of CheckShort. -/
noncomputable def shoE (S M : Int) (ws : List Wn) (xs : List Int) : Int :=
  if chk S M ws ≠ 0 then chk S M ws else if xs.length = 0 ∨ riseB S xs = false then 3 else if ∃ x ∈ natL xs, MB.load (shN ws) ws.length x = 0 then 16
  else if xs.length ≤ (MB.wtd (shN ws) (moN ws) ws.length M.toNat (natL xs)).length then 14 else 0
noncomputable def shoN (S M : Int) (ws : List Wn) (xs : List Int) : Int := if shoE S M ws xs = 0 then (xs.length : Int) - (MB.wtd (shN ws) (moN ws) ws.length M.toNat (natL xs)).length else 0
theorem rise_mem {S : Nat} {xs : List Int} (h : riseB S xs = true) : ∃ l : List Nat, xs = zsN l ∧ ∀ x ∈ l, x < S := by
  have hp : riseP S xs xs.length := by
    refine Classical.byContradiction fun hh => ?_
    rw [riseB_no hh] at h; cases h
  have h0 : ∀ x ∈ xs, 0 ≤ x ∧ x < S := fun x hx => by
    obtain ⟨i, hi, rfl⟩ := List.getElem_of_mem hx
    have := hp i hi
    rw [List.getD_eq_getElem?_getD, List.getElem?_eq_getElem hi] at this
    exact ⟨this.1, this.2.1⟩
  refine ⟨natL xs, (zsN_natL fun x hx => (h0 x hx).1).symm, fun y hy => ?_⟩
  obtain ⟨x, hx, rfl⟩ := List.mem_map.1 hy
  have := h0 x hx
  omega
theorem load0_76 (bt : Nat) (ws : List Wn) (n x : Nat) (h : Eng.Heap) (hb : h[bt]? = some (.cells (ldv (shN ws) 6 n).toArray 68)) (hx : x < 6) :
    CallsH Try.prog 76 (#[] ++ #[.int .i64 (x : Nat)] ++ #[.pointer (some ⟨bt, 0, none⟩)]) h (fun v h' => v = .bool (decide (MB.load (shN ws) n x = 0)) ∧ Ext h h') := by
  simp only [Array.append_empty, Array.empty_append, List.append_toArray, List.cons_append, List.nil_append]
  (refine CallsH_of_exec Try.func76 rfl bod76 ?_; simp only [Try.ntmps76, Try.results76, coreS, stK_some, splice, Value.cells, Value.oneCell', Nat.reduceAdd, Nat.reduceSub, Nat.reduceMul, Nat.reduceLeDiff, Int.reduceEq, Nat.reduceEqDiff, M40Fs76])
  have e := ldv_get (f := shN ws) (S := 6) (i := n) hx
  simp only [hb, e, Int.toNat_natCast, coreS, Value.cells, Value.oneCell', Nat.reduceAdd, Nat.reduceSub, Nat.reduceMul, Nat.reduceLeDiff, Int.reduceEq, Nat.reduceEqDiff, M40Fs76]
  refine ⟨by omega, ?_, Ext.refl _⟩
  congr 1
  rw [decide_eq_decide]
  omega
/-- The moulds that are marked, by the first wants. -/
def mkd (ws : List Wn) (own : List Nat) (k x : Nat) : Bool := (List.range k).any fun i => moN ws i == x && own.contains (shN ws i)
theorem mkd_next {ws : List Wn} {own : List Nat} {k x : Nat} : mkd ws own (k + 1) x = (mkd ws own k x || (moN ws k == x && own.contains (shN ws k))) := by
  simp [mkd, List.range_succ, List.any_append]
def mkL (ws : List Wn) (own : List Nat) (k : Nat) : List Int := (List.range 6).map fun x => if mkd ws own k x then (1 : Int) else 0
theorem mkL_length {ws : List Wn} {own : List Nat} {k : Nat} : (mkL ws own k).length = 6 := by simp [mkL]
theorem mkL_zero {ws : List Wn} {own : List Nat} : mkL ws own 0 = List.replicate 6 0 := by
  refine List.ext_getElem (by simp [mkL]) fun i h1 h2 => ?_
  rw [List.getElem_replicate]
  simp [mkL, mkd]
theorem mkL_no {ws : List Wn} {own : List Nat} {k : Nat} (h : own.contains (shN ws k) = false) : mkL ws own (k + 1) = mkL ws own k := by
  unfold mkL
  refine List.map_congr_left fun x _ => ?_
  rw [mkd_next, h, Bool.and_false, Bool.or_false]
theorem mkL_yes {ws : List Wn} {own : List Nat} {k : Nat} (h : own.contains (shN ws k) = true) (hm : moN ws k < 6) : (mkL ws own k).set (moN ws k) 1 = mkL ws own (k + 1) := by
  refine List.ext_getElem (by simp [mkL]) fun x h1 h2 => ?_
  have hx : x < 6 := by simpa [mkL] using h2
  rw [List.getElem_set]
  simp only [mkL, List.getElem_map, List.getElem_range, mkd_next, h, Bool.and_true]
  by_cases e : moN ws k = x
  · subst e; simp
  · rw [if_neg e]
    have : (moN ws k == x) = false := by simpa using e
    rw [this, Bool.or_false]
theorem mkL_cell {ws : List Wn} {own : List Nat} {k x : Nat} (hx : x < 6) : (Eng.ints (mkL ws own k))[x]? = some (.int .i64 (if mkd ws own k x then 1 else 0)) := by
  rw [Eng.ints_getElem? _ _ (by rw [mkL_length]; exact hx)]
  simp [mkL, List.getD_eq_getElem?_getD, hx]
theorem mkd_wtd {S M : Nat} {ws : List Wn} {own : List Nat} (V : Vb S M ws) : MB.cnt (mkd ws own ws.length) 6 = (MB.wtd (shN ws) (moN ws) ws.length M own).length := by
  unfold MB.cnt
  refine MB.same_length (List.Pairwise.filter _ List.nodup_range) MB.wtd_nodup fun m => ?_
  rw [List.mem_filter, List.mem_range, MB.mem_wtd, mkd, List.any_eq_true]
  have v4 := V.m2
  constructor
  · rintro ⟨_, i, hi, h⟩
    have hi := List.mem_range.1 hi
    simp only [Bool.and_eq_true, beq_iff_eq, List.contains_iff_mem] at h
    exact ⟨by have := (V.m hi).2; omega, i, hi, h⟩
  · rintro ⟨h0, i, hi, h1, h2⟩
    exact ⟨by omega, i, List.mem_range.2 hi, by simp [h1, h2]⟩
/-- A number of an array's, by its place. -/
theorem index_numT {P : Program} {t el : TypeId} {len : Nat} (hu : P.underlying t = some (.array len el)) (ha : aggT P el = some false) (hi : (P.info? el).isSome = true) (hs : szT P el = 1) {x i : Operand} {cs : List Value} {j : Nat} {u : Value} {ty : TypeId} {er : Eng.Env} {h : Eng.Heap} {K : Value → Eng.Heap → Prop} (hx : ev er x = .agg cs.toArray) (hj : ev er i = .int .i64 j) (hl : j < len) (hc : cs[j]? = some u) (H : K u h) : opSem P (.index t x i) ty er h K := by
  obtain ⟨inf, hinf⟩ := Option.isSome_iff_exists.1 hi
  have hsz : inf.size = 1 := by simpa [szT, hinf] using hs
  obtain ⟨v, h1, h2⟩ := part_sound (P := P) (t := el) (cs := cs.toArray) (off := j * inf.size) (h := h) (K := fun v _ => v = u) (by
    rw [hsz, Nat.mul_one]
    simp only [partW, ha, List.toList_toArray, hc, onV])
  subst h1
  refine opSem_pure rfl _ H fun w _ => ?_
  have hr : (0 : Int) ≤ (j : Int) ∧ (j : Int) < len := ⟨by omega, by omega⟩
  simp [execOp, Instr.index, hx, hj, asIntOf, run_underlying hu, hr, sizeOf, typeInfo, hinf, h2]
  intro hh; omega
theorem checkShort32 (S M : Int) (a : Option Addr) (n c : Nat) (ws : List Wn) (b : Option Addr) (k d : Nat) (xs : List Int) (h : Eng.Heap) (hr : Row h a (wsV ws)) (hn : n = ws.length) (hl : n ≤ 1000000) (hx : IntsV h b k xs) (hk : k ≤ 1000000) :
    CallsH Try.prog 32 #[.agg #[.int .i64 S, .int .i64 M, .slice a n c], .slice b k d] h (fun v h' => v = .tuple #[.int .i64 (shoN S M ws xs), .int .i64 (shoE S M ws xs)] ∧ Ext h h') := by
  have hkl := hx.len
  (refine CallsH_of_exec Try.func32 rfl bod32 ?_; simp only [Try.ntmps32, Try.results32, coreS, stK_some, splice, Value.cells, Value.oneCell', Nat.reduceAdd, Nat.reduceSub, Nat.reduceMul, Nat.reduceLeDiff, Int.reduceEq, Nat.reduceEqDiff, M40Fs32])
  have x0 : Ext h (h.push (.cells #[.int .i64 S, .int .i64 M, .slice a n c] 24)) := (Ext.refl h).push _
  have fin : ∀ {e k : Int} {Q : Prop}, shoE S M ws xs = e → shoN S M ws xs = k → Q → Value.tuple #[.int .i64 k, .int .i64 e] = Value.tuple #[.int .i64 (shoN S M ws xs), .int .i64 (shoE S M ws xs)] ∧ Q := fun h1 h2 q => ⟨by rw [h1, h2], q⟩
  have fin0 : ∀ {e : Int} {Q : Prop}, shoE S M ws xs = e → e ≠ 0 → Q → Value.tuple #[.int .i64 0, .int .i64 e] = Value.tuple #[.int .i64 (shoN S M ws xs), .int .i64 (shoE S M ws xs)] ∧ Q := fun h1 h2 q => fin h1 (by unfold shoN; rw [if_neg (by rw [h1]; exact h2)]) q
  refine CallsH.mono (open49 S M a n c ws _ (hr.ext x0) hn hl) ?_
  rintro v h1 ⟨x1, H⟩
  have y1 := x0.trans x1
  have hb1 := x1.get (push_new (h := h))
  rcases H with ⟨s, m, rfl, rfl, V, g, mb, rfl, hg1, hm1, hgs, hbs⟩ | ⟨hc, rfl⟩
  case inr =>
    simp only [hc, decide_false, Bool.not_false, coreS, Value.cells, Value.oneCell', Nat.reduceAdd, Nat.reduceSub, Nat.reduceMul, Nat.reduceLeDiff, Int.reduceEq, Nat.reduceEqDiff, M40Fs32]
    exact fin0 (by unfold shoE; rw [if_pos hc]) hc y1
  have hV := V.n
  have hc0 := V.chk
  have v1 := V.s1
  have v2 := V.s2
  have v4 := V.m2
  simp only [decide_true, Bool.not_true, coreS, Value.cells, Value.oneCell', Nat.reduceAdd, Nat.reduceSub, Nat.reduceMul, Nat.reduceLeDiff, Int.reduceEq, Nat.reduceEqDiff, M40Fs32]
  by_cases hk0 : (k : Int) = 0
  · simp only [hk0, decide_true, coreS, Value.cells, Value.oneCell', Nat.reduceAdd, Nat.reduceSub, Nat.reduceMul, Nat.reduceLeDiff, Int.reduceEq, Nat.reduceEqDiff, M40Fs32]
    exact fin0 (by unfold shoE; rw [if_neg (by simpa using hc0), if_pos (.inl (by omega))]) (by decide) y1
  simp only [hk0, hb1, decide_false, coreS, Value.cells, Value.oneCell', Nat.reduceAdd, Nat.reduceSub, Nat.reduceMul, Nat.reduceLeDiff, Int.reduceEq, Nat.reduceEqDiff, M40Fs32]
  refine CallsH.mono (rising69 b k d xs s h1 (hx.ext y1) hk ⟨by omega, by omega⟩) ?_
  rintro v h2 ⟨rfl, x2⟩
  have y2 := y1.trans x2
  cases hris : riseB s xs with
  | false =>
    simp only [Bool.not_false, coreS, Value.cells, Value.oneCell', Nat.reduceAdd, Nat.reduceSub, Nat.reduceMul, Nat.reduceLeDiff, Int.reduceEq, Nat.reduceEqDiff, M40Fs32]
    exact fin0 (by unfold shoE; rw [if_neg (by simpa using hc0), if_pos (.inr hris)]) (by decide) y2
  | true =>
  obtain ⟨own, rfl, hos⟩ := rise_mem hris
  have hno : ¬ ((zsN own).length = 0 ∨ riseB s (zsN own) = false) := fun hh => hh.elim (fun e => hk0 (by omega)) (fun e => by rw [hris] at e; cases e)
  have hg2 := x2.get hg1
  simp only [Bool.not_true, coreS, Value.cells, Value.oneCell', Nat.reduceAdd, Nat.reduceSub, Nat.reduceMul, Nat.reduceLeDiff, Int.reduceEq, Nat.reduceEqDiff, M40Fs32]
  refine CallsH.mono (loads50 g mb s m a n c ws h2 hg2 (hr.ext y2) hn V) ?_
  rintro v h3 ⟨rfl, x3⟩
  have l1 : (ldv (shN ws) 6 n).length = 6 := ldv_length
  have l2 : (ldv (moN ws) 6 n).length = 6 := ldv_length
  have sp : ∀ f : Nat → Nat, splice [.int .i64 0, .int .i64 0, .int .i64 0, .int .i64 0, .int .i64 0, .int .i64 0] 0 (ldv f 6 n) = ldv f 6 n := fun f => by
    simp [splice, ldv_length]
  simp only [l1, l2, ldv_one, List.size_toArray, List.toList_toArray, coreS, Value.cells, Value.oneCell', Nat.reduceAdd, Nat.reduceSub, Nat.reduceMul, Nat.reduceLeDiff, Int.reduceEq, Nat.reduceEqDiff, M40Fs32]
  have p0 : ((h3.push (.cells #[.int .i64 0, .int .i64 0, .int .i64 0, .int .i64 0, .int .i64 0, .int .i64 0] 68)).push (.cells #[.int .i64 0, .int .i64 0, .int .i64 0, .int .i64 0, .int .i64 0, .int .i64 0] 68))[h3.size]? = some (.cells #[.int .i64 0, .int .i64 0, .int .i64 0, .int .i64 0, .int .i64 0, .int .i64 0] 68) := pn0
  refine stK_abs p0 (by simp [l1]) fun h4 g4 u4 => ?_
  rw [sp] at g4
  have p1 : h4[h3.size + 1]? = some (.cells #[.int .i64 0, .int .i64 0, .int .i64 0, .int .i64 0, .int .i64 0, .int .i64 0] 68) := u4.get pn1 (by omega)
  simp only [p1, l1, l2, ldv_one, List.size_toArray, List.toList_toArray, coreS, Value.cells, Value.oneCell', Nat.reduceAdd, Nat.reduceSub, Nat.reduceMul, Nat.reduceLeDiff, Int.reduceEq, Nat.reduceEqDiff, M40Fs32]
  refine stK_abs p1 (by simp [l2]) fun h5 g5 u5 => ?_
  rw [sp] at g5
  have g4' := u5.get g4 (by omega)
  have x5 : Ext h3 h5 := u5.ext (u4.ext (((Ext.refl h3).push _).push _) (by omega)) (by omega)
  have y5 := (y2.trans x3).trans x5
  have hb5 := (x2.trans (x3.trans x5)).get hb1
  clear u4 u5 g4 p0 p1
  simp only [coreS, Value.cells, Value.oneCell', Nat.reduceAdd, Nat.reduceSub, Nat.reduceMul, Nat.reduceLeDiff, Int.reduceEq, Nat.reduceEqDiff, M40Fs32]
  refine CallsH.mono (containsFunc75 b k d (zsN own) 76 #[.pointer (some ⟨h3.size, 0, none⟩)] (fun x => decide (MB.load (shN ws) ws.length x.toNat = 0)) h5 (hx.ext y5) hk ?_) ?_
  · intro x hx hh xh
    obtain ⟨y, hy, rfl⟩ := List.mem_map.1 hx
    have hys := hos y hy
    refine CallsH.mono (load0_76 h3.size ws n y hh (xh.get g4') (by omega)) ?_
    rintro v h6 ⟨rfl, x6⟩
    exact ⟨by rw [hn, Int.toNat_natCast], x6⟩
  rintro v h6 ⟨rfl, x6⟩
  have y6 := y5.trans x6
  cases hany : (zsN own).any fun x => decide (MB.load (shN ws) ws.length x.toNat = 0) with
  | true =>
    simp only [coreS, Value.cells, Value.oneCell', Nat.reduceAdd, Nat.reduceSub, Nat.reduceMul, Nat.reduceLeDiff, Int.reduceEq, Nat.reduceEqDiff, M40Fs32]
    refine fin0 ?_ (by decide) y6
    unfold shoE
    rw [if_neg (by simpa using hc0), if_neg hno, if_pos]
    obtain ⟨x, hx, h0⟩ := List.any_eq_true.1 hany
    exact ⟨x.toNat, List.mem_map.2 ⟨x, hx, rfl⟩, of_decide_eq_true h0⟩
  | false =>
  have hnl : ¬ ∃ x ∈ natL (zsN own), MB.load (shN ws) ws.length x = 0 := by
    rintro ⟨x, hx, h0⟩
    obtain ⟨y, hy, rfl⟩ := List.mem_map.1 hx
    rw [List.any_eq_false] at hany
    exact hany y hy (by simpa using h0)
  have hb6 := x6.get hb5
  have ne6 : ¬ h.size = h6.size := by have := lt_of_get hb6; omega
  simp only [hb6, ne6, if_false, coreS, Value.cells, Value.oneCell', Nat.reduceAdd, Nat.reduceSub, Nat.reduceMul, Nat.reduceLeDiff, Int.reduceEq, Nat.reduceEqDiff, M40Fs32]
  have q6 := push_new (h := h6) (o := .cells #[.int .i64 0, .int .i64 0, .int .i64 0, .int .i64 0, .int .i64 0, .int .i64 0] 68)
  have z6 : (#[.int .i64 0, .int .i64 0, .int .i64 0, .int .i64 0, .int .i64 0, .int .i64 0] : Array Value) = (Eng.ints (mkL ws own 0)).toArray := by rw [mkL_zero]; rfl
  rw [z6] at q6
  refine WP_loopI [12, 47, 48, 49, 50, 51, 52, 53, 54, 55, 56, 57, 58] (fun e h' => Ext h6 h' ∧ ∃ j : Nat, j ≤ n ∧ e 47 = .int .i64 j ∧ h'[h6.size]? = some (.cells (Eng.ints (mkL ws own j)).toArray 68)) (fun e _ => match e 47 with | .int _ q => n - q.toNat | _ => 0) ⟨(Ext.refl h6).push _, 0, by omega, rfl, q6⟩ ?_
  rintro e7 h7 ⟨x7, j, hj, he, q7⟩
  have y7 := y6.trans x7
  by_cases hjn : j < n
  · have hlt : (j : Int) < (n : Int) := by omega
    have hjw : j < ws.length := by omega
    have meas : n - ((j : Int) + 1).toNat < n - (j : Int).toNat := by omega
    have rw7 := rowW (hr.ext y7) hjw
    have sm7 := rowW_some (hr.ext y7) hjw
    have o1 := V.s hjw
    have o2 := V.m hjw
    rw [o1.1, o2.1] at rw7
    simp only [he, hlt, rw7, decide_true, Int.toNat_natCast, coreS, Value.cells, Value.oneCell', Nat.reduceAdd, Nat.reduceSub, Nat.reduceMul, Nat.reduceLeDiff, Int.reduceEq, Nat.reduceEqDiff, M40Fs32]
    refine ⟨by omega, sm7, ?_⟩
    refine stK_abs (c := [.int .i64 0, .int .i64 0]) (off := 0) (vs := [.int .i64 (shN ws j : Nat), .int .i64 (moN ws j : Nat)]) push_new (by simp) fun h8 g8 u8 => ?_
    simp only [splice, List.drop, List.take] at g8
    have x8 : Ext h6 h8 := u8.ext (x7.push _) x7.size
    have l7 := lt_of_get q7
    have q8 : h8[h6.size]? = some (.cells (Eng.ints (mkL ws own j)).toArray 68) := u8.get (push_old q7) (by omega)
    simp only [g8, coreS, Value.cells, Value.oneCell', Nat.reduceAdd, Nat.reduceSub, Nat.reduceMul, Nat.reduceLeDiff, Int.reduceEq, Nat.reduceEqDiff, M40Fs32]
    refine CallsH.mono (contains66 b k d (zsN own) (shN ws j : Nat) h8 (hx.ext (y6.trans x8)) hk) ?_
    rintro v h9 ⟨rfl, x9⟩
    rw [zsN_has]
    cases hct : own.contains (shN ws j) with
    | false =>
      simp only [he, coreS, Value.cells, Value.oneCell', Nat.reduceAdd, Nat.reduceSub, Nat.reduceMul, Nat.reduceLeDiff, Int.reduceEq, Nat.reduceEqDiff, M40Fs32]
      refine ⟨by rw [inK_i64]; omega, roundK_mk (by kernel_rfl) ⟨x8.trans x9, j + 1, by omega, rfl, ?_⟩ meas⟩
      rw [mkL_no hct]; exact x9.get q8
    | true =>
      have q9 := x9.get q8
      have hm6 : moN ws j < 6 := by omega
      simp only [he, x9.get g8, q9, Int.toNat_natCast, coreS, Value.cells, Value.oneCell', Nat.reduceAdd, Nat.reduceSub, Nat.reduceMul, Nat.reduceLeDiff, Int.reduceEq, Nat.reduceEqDiff, M40Fs32]
      refine ⟨by omega, ?_⟩
      refine stK_abs (c := Eng.ints (mkL ws own j)) (off := moN ws j) (vs := [.int .i64 1]) q9 (by rw [Eng.ints_length, mkL_length]; simp; omega) fun hA gA uA => ?_
      rw [splice_one _ _ _ (by rw [Eng.ints_length, mkL_length]; exact hm6), Eng.ints_set, mkL_yes hct hm6] at gA
      simp only [he, coreS, Value.cells, Value.oneCell', Nat.reduceAdd, Nat.reduceSub, Nat.reduceMul, Nat.reduceLeDiff, Int.reduceEq, Nat.reduceEqDiff, M40Fs32]
      exact ⟨by rw [inK_i64]; omega, roundK_mk (by kernel_rfl) ⟨uA.ext (x8.trans x9) (Nat.le_refl _), j + 1, by omega, rfl, gA⟩ meas⟩
  obtain rfl : j = n := by omega
  have k1 := cesO_cells (c := Eng.ints (mkL ws own j)) (ct := 68) (fr := (0, 0)) (show 0 + 6 ≤ _ by rw [Eng.ints_length, mkL_length]; omega)
  have t1 : List.take 6 (Eng.ints (mkL ws own j)) = Eng.ints (mkL ws own j) := List.take_of_length_le (by rw [Eng.ints_length, mkL_length]; omega)
  simp only [List.drop_zero, t1] at k1
  simp only [he, show ¬ ((j : Int) < (j : Int)) by omega, q7, k1, decide_false, coreS, Value.cells, Value.oneCell', Nat.reduceAdd, Nat.reduceSub, Nat.reduceMul, Nat.reduceLeDiff, Int.reduceEq, Nat.reduceEqDiff, M40Fs32]
  refine WP_loopI [13, 15, 62, 63, 64, 65, 66, 67, 68] (fun e h' => h' = h7 ∧ ∃ x : Nat, x ≤ 6 ∧ e 62 = .int .i64 x ∧ e 13 = .int .i64 ((k : Int) - (MB.cnt (mkd ws own j) x : Nat))) (fun e _ => match e 62 with | .int _ q => 6 - q.toNat | _ => 0) ⟨rfl, 0, by omega, rfl, by simp [MB.cnt]⟩ ?_
  rintro e8 h8 ⟨rfl, x, hx6, hex, he13⟩
  have hcl : MB.cnt (mkd ws own j) x ≤ x := MB.cnt_le _ _
  by_cases hxs : x < 6
  · have hlt : (x : Int) < 6 := by omega
    have meas : 6 - ((x : Int) + 1).toNat < 6 - (x : Int).toNat := by omega
    have ce := mkL_cell (ws := ws) (own := own) (k := j) hxs
    have cs := MB.cnt_succ (mkd ws own j) x
    simp only [hex, he13, hlt, idsW_arr, decide_true, Int.toNat_natCast, coreS, Value.cells, Value.oneCell', Nat.reduceAdd, Nat.reduceSub, Nat.reduceMul, Nat.reduceLeDiff, Int.reduceEq, Nat.reduceEqDiff, M40Fs32]
    refine index_numT (j := x) Try.underlying68 agg3 inf3 sz3 rfl rfl (by omega) ce ?_
    simp only [hex, he13, coreS, Value.cells, Value.oneCell', Nat.reduceAdd, Nat.reduceSub, Nat.reduceMul, Nat.reduceLeDiff, Int.reduceEq, Nat.reduceEqDiff, M40Fs32]
    refine ⟨by rw [inK_i64]; split <;> omega, by rw [inK_i64]; omega, roundK_mk (by kernel_rfl) ⟨rfl, x + 1, by omega, rfl, ?_⟩ meas⟩
    rw [cs]
    show Value.int .i64 ((k : Int) - (MB.cnt (mkd ws own j) x : Nat) - if mkd ws own j x = true then 1 else 0) = _
    congr 1
    split <;> omega
  obtain rfl : x = 6 := by omega
  have hwt : MB.cnt (mkd ws own j) 6 = (MB.wtd (shN ws) (moN ws) ws.length m own).length := by rw [hn]; exact mkd_wtd V
  have hnN : natL (zsN own) = own := natL_zsN own
  simp only [hex, he13, show ¬ (((6 : Nat) : Int) < 6) by omega, decide_false, coreS, Value.cells, Value.oneCell', Nat.reduceAdd, Nat.reduceSub, Nat.reduceMul, Nat.reduceLeDiff, Int.reduceEq, Nat.reduceEqDiff, M40Fs32]
  by_cases hlt : (k : Int) - (MB.cnt (mkd ws own j) 6 : Nat) < 1
  · simp only [hlt, decide_true, coreS, Value.cells, Value.oneCell', Nat.reduceAdd, Nat.reduceSub, Nat.reduceMul, Nat.reduceLeDiff, Int.reduceEq, Nat.reduceEqDiff, M40Fs32]
    refine fin0 ?_ (by decide) y7
    unfold shoE
    rw [if_neg (by simpa using hc0), if_neg hno, if_neg hnl, if_pos]
    rw [hnN, Int.toNat_natCast, ← hwt]; omega
  · simp only [hlt, decide_false, coreS, Value.cells, Value.oneCell', Nat.reduceAdd, Nat.reduceSub, Nat.reduceMul, Nat.reduceLeDiff, Int.reduceEq, Nat.reduceEqDiff, M40Fs32]
    have e0 : shoE s m ws (zsN own) = 0 := by
      unfold shoE
      rw [if_neg (by simpa using hc0), if_neg hno, if_neg hnl, if_neg]
      rw [hnN, Int.toNat_natCast, ← hwt]; omega
    refine fin e0 ?_ y7
    unfold shoN
    rw [if_pos e0, hnN, Int.toNat_natCast, ← hwt]; omega
end Go.Proofs.Ytmgkeeefbfefgaa
