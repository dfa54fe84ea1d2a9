/- Walks: loads, Loads, of the program and of the reference. -/
import Derived.Test.YtmgkeeefbfefgaaM4
namespace Go.Proofs.Ytmgkeeefbfefgaa
open Go Go.Proofs Go.Eng Go.Run Tab
set_option maxRecDepth 100000
set_option linter.unusedSimpArgs false
set_option linter.unusedVariables false
set_option linter.defProp false
set_option maxHeartbeats 1000000
set_option linter.defProp false
def M5Fs50 := (And.intro (And.intro (And.intro (And.intro @agg22 @agg3) (And.intro @agg58 (And.intro @agg68 @by58))) (And.intro (And.intro @fo24_2 (And.intro @fo58_0 @fo58_1)) (And.intro @fo99_0 (And.intro @inf22 @inf3)))) (And.intro (And.intro (And.intro @inf58 @inf68) (And.intro @sz22 (And.intro @sz3 @sz58))) (And.intro (And.intro @sz68 (And.intro @zero58 @zero68)) (And.intro @Try.underlying22 (And.intro @Try.underlying25 @Try.underlying68)))))
/-- The loads by the first wants, as cells. -/
def ldL (f : Nat → Nat) (S i : Nat) : List Int := (List.range S).map fun x => (MB.load f i x : Int)
def ldv (f : Nat → Nat) (S i : Nat) : List Value := Eng.ints (ldL f S i)
theorem ldL_length {f : Nat → Nat} {S i : Nat} : (ldL f S i).length = S := by simp [ldL]
theorem ldv_length {f : Nat → Nat} {S i : Nat} : (ldv f S i).length = S := by simp [ldv, Eng.ints, ldL]
theorem ldv_get {f : Nat → Nat} {S i x : Nat} (hx : x < S) : (ldv f S i)[x]? = some (.int .i64 (MB.load f i x : Nat)) := by
  simp [ldv, Eng.ints, ldL, hx]
theorem ldL_get {f : Nat → Nat} {S i x : Nat} (hx : x < S) : (ldL f S i).getD x 0 = (MB.load f i x : Nat) := by
  simp [ldL, hx, List.getD]
theorem load_succ (f : Nat → Nat) (i x : Nat) : MB.load f (i + 1) x = MB.load f i x + if f i = x then 1 else 0 := by
  unfold MB.load
  rw [MB.cnt_succ]
  simp
theorem ldv_set {f : Nat → Nat} {S i : Nat} (hf : f i < S) : splice (ldv f S i) (f i) [.int .i64 ((MB.load f i (f i) : Nat) + 1 : Int)] = ldv f S (i + 1) := by
  rw [splice_one _ _ _ (by rw [ldv_length]; exact hf)]
  refine List.ext_getElem? fun x => ?_
  rw [List.getElem?_set]
  by_cases hx : x < S
  · rw [ldv_get hx, ldv_get hx, load_succ]
    by_cases e : f i = x
    · subst e; simp [ldv_length, hf]
    · simp [e]
  · have h1 : (ldv f S i)[x]? = none := List.getElem?_eq_none (by rw [ldv_length]; omega)
    have h2 : (ldv f S (i + 1))[x]? = none := List.getElem?_eq_none (by rw [ldv_length]; omega)
    rw [h1, h2, if_neg (by omega)]
theorem ldv_zero {f : Nat → Nat} {S : Nat} : ldv f S 0 = List.replicate S (.int .i64 0) := by
  refine List.ext_getElem? fun x => ?_
  by_cases hx : x < S
  · rw [ldv_get hx]; simp [hx, MB.load, MB.cnt_zero]
  · have h1 : (ldv f S 0)[x]? = none := List.getElem?_eq_none (by rw [ldv_length]; omega)
    rw [h1]; simp; omega
theorem ldv_one {f : Nat → Nat} {S i : Nat} : (ldv f S i).all one = true := by
  rw [List.all_eq_true]
  intro v hv
  simp only [ldv, Eng.ints, List.mem_map] at hv
  obtain ⟨x, _, rfl⟩ := hv
  rfl
theorem load_bound (f : Nat → Nat) (i x : Nat) : MB.load f i x ≤ i := MB.cnt_le _ _
theorem loads50 (g b S M : Nat) (a : Option Addr) (n c : Nat) (ws : List Wn) (h : Eng.Heap) (hg : DeskB h g b S M a n c) (hr : Row h a (wsV ws)) (hn : n = ws.length) (V : Vb S M ws) :
    CallsH Try.prog 50 #[.pointer (some ⟨g, 0, none⟩)] h (fun v h' => v = .tuple #[.agg (ldv (shN ws) 6 n).toArray, .agg (ldv (moN ws) 6 n).toArray] ∧ Ext h h') := by
  unfold DeskB at hg
  have hgl := lt_of_get hg
  (refine CallsH_of_exec Try.func50 rfl bod50 ?_; simp only [Try.ntmps50, Try.results50, coreS, stK_some, splice, Value.cells, Value.oneCell', Nat.reduceAdd, Nat.reduceSub, Nat.reduceMul, Nat.reduceLeDiff, Int.reduceEq, Nat.reduceEqDiff, M5Fs50])
  have z6 : (((6 : Nat) : Int) = ((0 : Nat) : Int)) = False := by simp
  have f6 : (((6 : Nat) : Int) - ((0 : Nat) : Int)).toNat = 6 := by decide
  have nine : ∀ {x : Nat}, ¬ (h.size + x + 1 = h.size + x) := by intro x; omega
  obtain ⟨Z, hZ⟩ : ∃ Z : Obj, Z = .cells #[.int .i64 0, .int .i64 0, .int .i64 0, .int .i64 0, .int .i64 0, .int .i64 0] 68 := ⟨_, rfl⟩
  simp only [z6, f6, if_false, ← hZ]
  refine ⟨by omega, by omega, by omega, by omega, ?_⟩
  obtain ⟨h0, hh0⟩ : ∃ h0, h0 = (((h.push Z).push Z).push Z).push Z := ⟨_, rfl⟩
  have s0 : h0.size = h.size + 4 := by rw [hh0]; simp
  have x0 : Ext h h0 := by rw [hh0]; exact ((((Ext.refl h).push _).push _).push _).push _
  have q0 : h0[h.size]? = some Z := by rw [hh0]; exact push_old (push_old (push_old push_new))
  have q1 : h0[h.size + 1]? = some Z := by rw [hh0]; exact push_old (push_old pn1)
  have q2 : h0[h.size + 1 + 1]? = some Z := by rw [hh0, Array.getElem?_push, if_neg (by simp), Array.getElem?_push, if_pos (by simp)]
  have q3 : h0[h.size + 1 + 1 + 1]? = some Z := by rw [hh0, Array.getElem?_push, if_pos (by simp)]
  rw [← hh0]
  clear hh0
  subst hZ
  have zz : ∀ f, splice (List.replicate 6 (.int .i64 0)) 0 (List.replicate 6 (.int .i64 0)) = ldv f 6 0 := fun f => by rw [ldv_zero]; rfl
  refine clear_intsT (g := h.size + 1 + 1) (off := 0) (n := 6) (c := 6) (z := 0) (ct := 68) (cur := List.replicate 6 (.int .i64 0)) Try.underlying25 zero3 (by rfl) q2 (by simp) fun h1 g1 u1 => ?_
  rw [zz (shN ws)] at g1
  simp only [z6, f6, if_false, coreS, Value.cells, Value.oneCell', Nat.reduceAdd, Nat.reduceSub, Nat.reduceMul, Nat.reduceLeDiff, Int.reduceEq, Nat.reduceEqDiff, M5Fs50]
  refine ⟨by omega, by omega, by omega, by omega, ?_⟩
  refine clear_intsT (g := h.size + 1 + 1 + 1) (off := 0) (n := 6) (c := 6) (z := 0) (ct := 68) (cur := List.replicate 6 (.int .i64 0)) Try.underlying25 zero3 (by rfl) (u1.get q3 (by omega)) (by simp) fun h2 g2 u2 => ?_
  rw [zz (moN ws)] at g2
  have e1 := u2.get g1 (by omega)
  have p0 := u2.get (u1.get q0 (by omega)) (by omega)
  have p1 := u2.get (u1.get q1 (by omega)) (by omega)
  have x2 : Ext h h2 := u2.ext (u1.ext x0 (by omega)) (by omega)
  have hs2 : h2.size = h.size + 4 := by rw [u2.size, u1.size, s0]
  clear u1 u2 g1 q0 q1 q2 q3 x0
  have hg2 := x2.get hg
  simp only [hg2, coreS, Value.cells, Value.oneCell', Nat.reduceAdd, Nat.reduceSub, Nat.reduceMul, Nat.reduceLeDiff, Int.reduceEq, Nat.reduceEqDiff, M5Fs50]
  refine WP_loopI [7, 16, 17, 18, 19, 20, 21, 22, 23, 24, 25, 26, 27, 28, 29, 30, 31, 32] (fun e h' => Ext h h' ∧ ∃ i : Nat, i ≤ n ∧ e 16 = .int .i64 i ∧ h'[h.size]? = some (.cells #[.int .i64 0, .int .i64 0, .int .i64 0, .int .i64 0, .int .i64 0, .int .i64 0] 68) ∧ h'[h.size + 1]? = some (.cells #[.int .i64 0, .int .i64 0, .int .i64 0, .int .i64 0, .int .i64 0, .int .i64 0] 68) ∧ h'[h.size + 1 + 1]? = some (.cells (ldv (shN ws) 6 i).toArray 68) ∧ h'[h.size + 1 + 1 + 1]? = some (.cells (ldv (moN ws) 6 i).toArray 68)) (fun e _ => match e 16 with | .int _ q => n - q.toNat | _ => 0) ⟨x2, 0, by omega, rfl, p0, p1, e1, g2⟩ ?_
  rintro e h' ⟨x, i, hi, he, r0, r1, r2, r3⟩
  by_cases hin : i < ws.length
  · have hlt : (i : Int) < (n : Int) := by omega
    have hc := rowW (hr.ext x) hin
    have hsm := rowW_some hr hin
    have hs := V.s hin
    have hm := V.m hin
    have hs6 := V.s2
    have hm6 := V.m2
    rw [hs.1, hm.1] at hc
    have hl := lt_of_get r3
    have d1 : ¬ (h.size + 1 + 1 = h'.size) := by omega
    have d2 : ¬ (h.size + 1 + 1 + 1 = h'.size) := by omega
    have k1 := ldv_get (f := shN ws) (S := 6) (i := i) (x := shN ws i) (by omega)
    have k2 := ldv_get (f := moN ws) (S := 6) (i := i) (x := moN ws i) (by omega)
    simp only [he, hlt, hc, decide_true, Int.toNat_natCast, coreS, Value.cells, Value.oneCell', Nat.reduceAdd, Nat.reduceSub, Nat.reduceMul, Nat.reduceLeDiff, Int.reduceEq, Nat.reduceEqDiff, M5Fs50]
    refine ⟨by omega, hsm, ?_⟩
    refine stK_abs (c := [.int .i64 0, .int .i64 0]) push_new (by simp) fun h3 g3 u3 => ?_
    simp only [splice, List.take, List.drop, List.nil_append, List.append_nil, List.length_cons, List.length_nil, Nat.zero_add] at g3
    have w0 := u3.get (push_old r0) (by omega)
    have w1 := u3.get (push_old r1) (by omega)
    have w2 := u3.get (push_old r2) (by omega)
    have w3 := u3.get (push_old r3) (by omega)
    have y3 : Ext h h3 := u3.ext (x.push _) x.size
    simp only [g3, w2, k1, Int.toNat_natCast, coreS, Value.cells, Value.oneCell', Nat.reduceAdd, Nat.reduceSub, Nat.reduceMul, Nat.reduceLeDiff, Int.reduceEq, Nat.reduceEqDiff, M5Fs50]
    have lb1 := load_bound (shN ws) i (shN ws i)
    have lb2 := load_bound (moN ws) i (moN ws i)
    have V3 := V.n
    refine ⟨⟨by omega, by omega⟩, by rw [inK_i64]; omega, ⟨by omega, by omega⟩, ?_⟩
    refine stK_abs w2 (by simp [ldv_length]; omega) fun h4 g4 u4 => ?_
    rw [ldv_set (by omega)] at g4
    have z0 := u4.get w0 (by omega)
    have z1 := u4.get w1 (by omega)
    have z3 := u4.get w3 (by omega)
    have z4 := u4.get g3 (by omega)
    have y4 : Ext h h4 := u4.ext y3 (by omega)
    simp only [z3, z4, k2, Int.toNat_natCast, coreS, Value.cells, Value.oneCell', Nat.reduceAdd, Nat.reduceSub, Nat.reduceMul, Nat.reduceLeDiff, Int.reduceEq, Nat.reduceEqDiff, M5Fs50]
    refine ⟨⟨by omega, by omega⟩, by rw [inK_i64]; omega, ⟨by omega, by omega⟩, ?_⟩
    refine stK_abs z3 (by simp [ldv_length]; omega) fun h5 g5 u5 => ?_
    rw [ldv_set (by omega)] at g5
    simp only [coreS, Value.cells, Value.oneCell', Nat.reduceAdd, Nat.reduceSub, Nat.reduceMul, Nat.reduceLeDiff, Int.reduceEq, Nat.reduceEqDiff, M5Fs50]
    refine ⟨by rw [inK_i64]; omega, roundK_mk (by kernel_rfl) ⟨u5.ext y4 (by omega), i + 1, by omega, rfl, u5.get z0 (by omega), u5.get z1 (by omega), u5.get g4 (by omega), g5⟩ ?_⟩
    show n - ((i : Int) + 1).toNat < n - (i : Int).toNat
    omega
  · obtain rfl : i = n := by omega
    have hlt : ¬ ((i : Int) < (i : Int)) := by omega
    have V3 := V.n
    simp only [he, hlt, decide_false, coreS, Value.cells, Value.oneCell', Nat.reduceAdd, Nat.reduceSub, Nat.reduceMul, Nat.reduceLeDiff, Int.reduceEq, Nat.reduceEqDiff, M5Fs50]
    refine WP_tree (by kernel_rfl) sta_eq (.quiet 0 (.fork2 1 2 true false (.one 2 (.one 3 (.fin))) (.quiet 1 (.one 3 (.fin))))) (by kernel_rfl) rfl (by kernel_rfl) ?_
    have t1 : List.take 6 (ldv (shN ws) 6 i) = ldv (shN ws) 6 i := List.take_of_length_le (by rw [ldv_length]; exact Nat.le_refl _)
    have t2 : List.take 6 (ldv (moN ws) 6 i) = ldv (moN ws) 6 i := List.take_of_length_le (by rw [ldv_length]; exact Nat.le_refl _)
    have l1 : 0 + 6 ≤ (ldv (shN ws) 6 i).length := by rw [ldv_length]; omega
    have l2 : 0 + 6 ≤ (ldv (moN ws) 6 i).length := by rw [ldv_length]; omega
    have c1 := cesO_cells (c := ldv (shN ws) 6 i) (ct := 68) (fr := (0, 0)) l1
    have c2 := cesO_cells (c := ldv (moN ws) 6 i) (ct := 68) (fr := (0, 0)) l2
    simp only [List.drop_zero, t1, t2] at c1 c2
    have sp : ∀ f : Nat → Nat, splice [.int .i64 0, .int .i64 0, .int .i64 0, .int .i64 0, .int .i64 0, .int .i64 0] 0 (ldv f 6 i) = ldv f 6 i := fun f => by
      simp [splice, ldv_length]
    simp only [r2, c1, coreS, Value.cells, Value.oneCell', Nat.reduceAdd, Nat.reduceSub, Nat.reduceMul, Nat.reduceLeDiff, Int.reduceEq, Nat.reduceEqDiff, drawS, treeS, M5Fs50]
    have hl := lt_of_get r3
    have k1 := cesO_cells (c := ldv (shN ws) 6 i) (ct := 68) (fr := (0, 0)) l1
    have k2 := cesO_cells (c := ldv (moN ws) 6 i) (ct := 68) (fr := (0, 0)) l2
    simp only [List.drop_zero, t1, t2] at k1 k2
    refine execT_fork2E ?_ ?_
    · simp only [r3, c2, coreS, Value.cells, Value.oneCell', Nat.reduceAdd, Nat.reduceSub, Nat.reduceMul, Nat.reduceLeDiff, Int.reduceEq, Nat.reduceEqDiff, drawS, treeS, M5Fs50]
      refine ⟨rfl, ?_⟩
      refine execT_oneE ?_
      simp only [r0, ldv_length, ldv_one, List.size_toArray, List.toList_toArray, coreS, Value.cells, Value.oneCell', Nat.reduceAdd, Nat.reduceSub, Nat.reduceMul, Nat.reduceLeDiff, Int.reduceEq, Nat.reduceEqDiff, drawS, treeS, M5Fs50]
      refine stK_abs r0 (by simp [ldv_length]) fun h4 g4 u4 => ?_
      rw [sp] at g4
      refine execT_oneE ?_
      have r1' := u4.get r1 (by omega)
      simp only [r1', ldv_length, ldv_one, List.size_toArray, List.toList_toArray, coreS, Value.cells, Value.oneCell', Nat.reduceAdd, Nat.reduceSub, Nat.reduceMul, Nat.reduceLeDiff, Int.reduceEq, Nat.reduceEqDiff, drawS, treeS, M5Fs50]
      refine stK_abs r1' (by simp [ldv_length]) fun h5 g5 u5 => ?_
      rw [sp] at g5
      have g4' := u5.get g4 (by omega)
      refine execT_finE ?_
      simp only [g4', g5, k1, k2, coreS, Value.cells, Value.oneCell', Nat.reduceAdd, Nat.reduceSub, Nat.reduceMul, Nat.reduceLeDiff, Int.reduceEq, Nat.reduceEqDiff, M5Fs50]
      exact u5.ext (u4.ext x (by omega)) (by omega)
    · simp only [r0, ldv_length, ldv_one, List.size_toArray, List.toList_toArray, coreS, Value.cells, Value.oneCell', Nat.reduceAdd, Nat.reduceSub, Nat.reduceMul, Nat.reduceLeDiff, Int.reduceEq, Nat.reduceEqDiff, drawS, treeS, M5Fs50]
      refine stK_abs r0 (by simp [ldv_length]) fun h4 g4 u4 => ?_
      rw [sp] at g4
      have r1' := u4.get r1 (by omega)
      have r3' := u4.get r3 (by omega)
      simp only [r3', c2, coreS, Value.cells, Value.oneCell', Nat.reduceAdd, Nat.reduceSub, Nat.reduceMul, Nat.reduceLeDiff, Int.reduceEq, Nat.reduceEqDiff, drawS, treeS, M5Fs50]
      first | refine ⟨fun hh => by cases hh, ?_⟩ | skip
      refine execT_oneE ?_
      simp only [r1', ldv_length, ldv_one, List.size_toArray, List.toList_toArray, coreS, Value.cells, Value.oneCell', Nat.reduceAdd, Nat.reduceSub, Nat.reduceMul, Nat.reduceLeDiff, Int.reduceEq, Nat.reduceEqDiff, drawS, treeS, M5Fs50]
      refine stK_abs r1' (by simp [ldv_length]) fun h5 g5 u5 => ?_
      rw [sp] at g5
      have g4' := u5.get g4 (by omega)
      refine execT_finE ?_
      simp only [g4', g5, k1, k2, coreS, Value.cells, Value.oneCell', Nat.reduceAdd, Nat.reduceSub, Nat.reduceMul, Nat.reduceLeDiff, Int.reduceEq, Nat.reduceEqDiff, M5Fs50]
      exact u5.ext (u4.ext x (by omega)) (by omega)
end Go.Proofs.Ytmgkeeefbfefgaa
