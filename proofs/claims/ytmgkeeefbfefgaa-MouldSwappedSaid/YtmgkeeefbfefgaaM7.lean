/- Walks: Loads, of the program. -/
import Derived.Test.YtmgkeeefbfefgaaM6
namespace Go.Proofs.Ytmgkeeefbfefgaa
open Go Go.Proofs Go.Eng Go.Run Tab
set_option maxRecDepth 100000
set_option linter.unusedSimpArgs false
set_option linter.unusedVariables false
set_option linter.defProp false
set_option maxHeartbeats 1000000
set_option linter.defProp false
def M7Fs18 := (And.intro (And.intro (And.intro (And.intro @agg24 @agg3) (And.intro @agg68 @by3)) (And.intro (And.intro @fo24_0 @fo24_1) (And.intro @inf24 @inf3))) (And.intro (And.intro (And.intro @inf68 @sz24) (And.intro @sz3 @sz68)) (And.intro (And.intro @zero3 @zero68) (And.intro @Try.underlying25 @Try.underlying68))))
theorem ldL_take {f : Nat → Nat} {S i : Nat} (hS : S ≤ 6) : (ldL f 6 i).take S = ldL f S i := by
  unfold ldL
  rw [← List.map_take, List.take_range, Nat.min_eq_left hS]
theorem cpy_ld {f : Nat → Nat} {S i : Nat} (hS : S ≤ 6) : splice (List.replicate S (.int .i64 0)) 0 (Eng.ints ((ldL f 6 i).take S)) = ldv f S i := by
  rw [ldL_take hS]
  simp [splice, ldv, Eng.ints, ldL]
theorem cpy25 {h : Eng.Heap} {er : Env} {ty : TypeId} {x y : Operand} {b : Option Addr} {g off n c m c2 : Nat} {cur : List Value} {ys : List Int} {K : Value → Eng.Heap → Prop} (hx : ev er x = .slice (some ⟨g, off, none⟩) n c) (hy : ev er y = .slice b m c2) (hb : h[g]? = some (.cells cur.toArray 3 (0, 0))) (hl : off + n ≤ cur.length) (I : IntsV h b m ys)
    (H : ∀ h', h'[g]? = some (.cells (splice cur off (Eng.ints (ys.take n))).toArray 3 (0, 0)) → Upd h h' g → K (.int .i64 (min m n : Nat)) h') : opSem Try.prog (.call ⟨.builtin .copy, #[x, y], #[25, 25]⟩) ty er h K :=
  copy_intsT Try.underlying25 Try.underlying25 inf3 sz3 hx hy hb hl I H
theorem loads18 (S M : Int) (a : Option Addr) (n c : Nat) (ws : List Wn) (h : Eng.Heap) (hr : Row h a (wsV ws)) (hn : n = ws.length) (hl : n ≤ 1000000) :
    CallsH Try.prog 18 #[.agg #[.int .i64 S, .int .i64 M, .slice a n c]] h (fun v h' => LoadsP S M ws h.size h' v ∧ Ext h h') := by
  (refine CallsH_of_exec Try.func18 rfl bod18 ?_; simp only [Try.ntmps18, Try.results18, coreS, stK_some, splice, Value.cells, Value.oneCell', Nat.reduceAdd, Nat.reduceSub, Nat.reduceMul, Nat.reduceLeDiff, Int.reduceEq, Nat.reduceEqDiff, M7Fs18])
  have x0 : Ext h (h.push (.cells #[.int .i64 S, .int .i64 M, .slice a n c] 24)) := (Ext.refl h).push _
  refine CallsH.mono (open49 S M a n c ws _ (hr.push _) hn hl) ?_
  rintro v h1 ⟨x1, ⟨s, m, rfl, rfl, V, g, b, rfl, hg, hmb, hgs, hbs⟩ | ⟨hc, rfl⟩⟩
  · have hb1 := x1.get (push_new (h := h))
    have y1 := x0.trans x1
    simp only [hb1, Bool.not_true, decide_true, coreS, Value.cells, Value.oneCell', Nat.reduceAdd, Nat.reduceSub, Nat.reduceMul, Nat.reduceLeDiff, Int.reduceEq, Nat.reduceEqDiff, M7Fs18]
    refine CallsH.mono (loads50 g b s m a n c ws h1 hg (hr.ext y1) hn V) ?_
    rintro v h2 ⟨rfl, x2⟩
    have hb2 := x2.get hb1
    have y2 := y1.trans x2
    have l1 : (ldv (shN ws) 6 n).length = 6 := ldv_length
    have l2 : (ldv (moN ws) 6 n).length = 6 := ldv_length
    have sp : ∀ f : Nat → Nat, splice [.int .i64 0, .int .i64 0, .int .i64 0, .int .i64 0, .int .i64 0, .int .i64 0] 0 (ldv f 6 n) = ldv f 6 n := fun f => by
      simp [splice, ldv_length]
    simp only [l1, l2, ldv_one, List.size_toArray, List.toList_toArray, coreS, Value.cells, Value.oneCell', Nat.reduceAdd, Nat.reduceSub, Nat.reduceMul, Nat.reduceLeDiff, Int.reduceEq, Nat.reduceEqDiff, M7Fs18]
    have p0 : ((h2.push (.cells #[.int .i64 0, .int .i64 0, .int .i64 0, .int .i64 0, .int .i64 0, .int .i64 0] 68)).push (.cells #[.int .i64 0, .int .i64 0, .int .i64 0, .int .i64 0, .int .i64 0, .int .i64 0] 68))[h2.size]? = some (.cells #[.int .i64 0, .int .i64 0, .int .i64 0, .int .i64 0, .int .i64 0, .int .i64 0] 68) := pn0
    refine stK_abs p0 (by simp [l1]) fun h3 g3 u3 => ?_
    rw [sp] at g3
    have p1 : h3[h2.size + 1]? = some (.cells #[.int .i64 0, .int .i64 0, .int .i64 0, .int .i64 0, .int .i64 0, .int .i64 0] 68) := u3.get pn1 (by omega)
    simp only [p1, l1, l2, ldv_one, List.size_toArray, List.toList_toArray, coreS, Value.cells, Value.oneCell', Nat.reduceAdd, Nat.reduceSub, Nat.reduceMul, Nat.reduceLeDiff, Int.reduceEq, Nat.reduceEqDiff, M7Fs18]
    refine stK_abs p1 (by simp [l2]) fun h4 g4 u4 => ?_
    rw [sp] at g4
    have g3' := u4.get g3 (by omega)
    have x4 : Ext h2 h4 := u4.ext (u3.ext (((Ext.refl h2).push _).push _) (by omega)) (by omega)
    have y4 := y2.trans x4
    have hb4 := x4.get hb2
    clear u3 u4 g3 p0 p1
    have hgl := lt_of_get g4
    simp only [coreS, Value.cells, Value.oneCell', Nat.reduceAdd, Nat.reduceSub, Nat.reduceMul, Nat.reduceLeDiff, Int.reduceEq, Nat.reduceEqDiff, M7Fs18]
    refine WP_cut [9, 10, 24, 25, 26, 27, 28, 29] (fun g h' => TwoZ h4.size h' (g 9) (g 10) s m ∧ Ext h4 h') ?_ ?_
    · have V1 := V.s1
      have V2 := V.s2
      have V3 := V.m1
      have V4 := V.m2
      refine WP_tree (by kernel_rfl) sta_ext (.quiet 0 (.quiet 1 (.quiet 3 (.quiet 4 (.fork2 2 5 true true (.quiet 6 (.keep 5 (.quiet 7 (.fin)))) (.keep 2 (.quiet 6 (.quiet 7 (.fin))))))))) (by kernel_rfl) rfl (by kernel_rfl) ?_
      simp only [hb4, coreS, Value.cells, Value.oneCell', Nat.reduceAdd, Nat.reduceSub, Nat.reduceMul, Nat.reduceLeDiff, Int.reduceEq, Nat.reduceEqDiff, drawS, treeS, M7Fs18]
      refine execT_fork2 fun h1 x1 => ⟨?_, ?_⟩
      · simp only [List.flatten_replicate_singleton, coreS, Value.cells, Value.oneCell', Nat.reduceAdd, Nat.reduceSub, Nat.reduceMul, Nat.reduceLeDiff, Int.reduceEq, Nat.reduceEqDiff, drawS, treeS, M7Fs18]
        repeat (first | refine And.intro (by omega) ?_ | refine And.intro ((Ext.refl _).push _) ?_ | refine And.intro (fun _ => (Ext.refl _).push _) ?_)
        refine execT_keep fun h2 x2 => ?_
        simp only [List.flatten_replicate_singleton, coreS, Value.cells, Value.oneCell', Nat.reduceAdd, Nat.reduceSub, Nat.reduceMul, Nat.reduceLeDiff, Int.reduceEq, Nat.reduceEqDiff, drawS, treeS, M7Fs18]
        repeat (first | refine And.intro (by omega) ?_ | refine And.intro ((Ext.refl _).push _) ?_ | refine And.intro (fun _ => (Ext.refl _).push _) ?_)
        refine execT_fin fun h3 x3 => ?_
        have s2 := x2.size
        rw [push_size] at s2
        have s1 := x1.size
        simp only [thenK_normal]
        exact midK_mk (by kernel_rfl) ⟨⟨h1.size, h2.size, rfl, rfl, by omega, s1, by omega, x3.get (push_old (x2.get push_new)), x3.get push_new⟩, ((x1.push _).trans x2).trans (x3.of_push)⟩
      · simp only [List.flatten_replicate_singleton, coreS, Value.cells, Value.oneCell', Nat.reduceAdd, Nat.reduceSub, Nat.reduceMul, Nat.reduceLeDiff, Int.reduceEq, Nat.reduceEqDiff, drawS, treeS, M7Fs18]
        repeat (first | refine And.intro (by omega) ?_ | refine And.intro ((Ext.refl _).push _) ?_ | refine And.intro (fun _ => (Ext.refl _).push _) ?_)
        refine execT_keep fun h2 x2 => ?_
        simp only [List.flatten_replicate_singleton, coreS, Value.cells, Value.oneCell', Nat.reduceAdd, Nat.reduceSub, Nat.reduceMul, Nat.reduceLeDiff, Int.reduceEq, Nat.reduceEqDiff, drawS, treeS, M7Fs18]
        repeat (first | refine And.intro (by omega) ?_ | refine And.intro ((Ext.refl _).push _) ?_ | refine And.intro (fun _ => (Ext.refl _).push _) ?_)
        refine execT_fin fun h3 x3 => ?_
        have s2 := x2.size
        rw [push_size] at s2
        have s1 := x1.size
        simp only [thenK_normal]
        exact midK_mk (by kernel_rfl) ⟨⟨h2.size, h1.size, rfl, rfl, by omega, by omega, s1, x3.get push_new, x3.get (push_old (x2.get push_new))⟩, ((x1.push _).trans x2).trans (x3.of_push)⟩
    · rintro e0 h5 ⟨⟨p, q, e4, e5, hpq, hp, hq, hzp, hzq⟩, x5⟩
      have V2 := V.s2
      have V4 := V.m2
      have f3 := x5.get g3'
      have f4 := x5.get g4
      have z6 : (((6 : Nat) : Int) = ((0 : Nat) : Int)) = False := by simp
      have f6 : (((6 : Nat) : Int) - ((0 : Nat) : Int)).toNat = 6 := by decide
      simp only [e4, e5, f3, f4, z6, f6, if_false, coreS, Value.cells, Value.oneCell', Nat.reduceAdd, Nat.reduceSub, Nat.reduceMul, Nat.reduceLeDiff, Int.reduceEq, Nat.reduceEqDiff, M7Fs18]
      refine ⟨by omega, by omega, by omega, by omega, ?_⟩
      have i1 : IntsV h5 (some ⟨h2.size, 0, none⟩) 6 (ldL (shN ws) 6 n) := by
        have := IntsV.block (xs := ldL (shN ws) 6 n) f3
        rwa [ldL_length] at this
      refine cpy25 rfl rfl hzp (by simp) i1 fun h6 g6 u6 => ?_
      rw [cpy_ld V2] at g6
      have f4' := u6.get f4 (by omega)
      have hzq' := u6.get hzq (by omega)
      simp only [f4', z6, f6, if_false, coreS, Value.cells, Value.oneCell', Nat.reduceAdd, Nat.reduceSub, Nat.reduceMul, Nat.reduceLeDiff, Int.reduceEq, Nat.reduceEqDiff, M7Fs18]
      refine ⟨by omega, by omega, by omega, by omega, ?_⟩
      have i2 : IntsV h6 (some ⟨h2.size + 1, 0, none⟩) 6 (ldL (moN ws) 6 n) := by
        have := IntsV.block (xs := ldL (moN ws) 6 n) f4'
        rwa [ldL_length] at this
      refine cpy25 rfl rfl hzq' (by simp) i2 fun h7 g7 u7 => ?_
      rw [cpy_ld V4] at g7
      have g6' := u7.get g6 (by omega)
      simp only [coreS, Value.cells, Value.oneCell', Nat.reduceAdd, Nat.reduceSub, Nat.reduceMul, Nat.reduceLeDiff, Int.reduceEq, Nat.reduceEqDiff, M7Fs18]
      have sz := y4.size
      refine ⟨⟨fun s' m' hs hm V' => ?_, fun hne => absurd V.chk hne⟩, u7.ext (u6.ext (y4.trans x5) (by omega)) (by omega)⟩
      obtain rfl : s = s' := by omega
      obtain rfl : m = m' := by omega
      subst hn
      exact ⟨p, q, rfl, hpq, by omega, by omega, g6', g7⟩
  · have y1 := x0.trans x1
    simp only [hc, decide_false, Bool.not_false, coreS, Value.cells, Value.oneCell', Nat.reduceAdd, Nat.reduceSub, Nat.reduceMul, Nat.reduceLeDiff, Int.reduceEq, Nat.reduceEqDiff, M7Fs18]
    refine ⟨⟨fun s' m' hs hm V' => ?_, fun hne => rfl⟩, y1⟩
    subst hs hm
    exact absurd V'.chk hc
end Go.Proofs.Ytmgkeeefbfefgaa
