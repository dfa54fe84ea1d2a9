/- Texts joined by pack.py: lemmas for YtafemfjhflfdeaaDoorPlans. No condition. -/
import Derived.Test.YtafemfjhflfdeaaDoorPB11
set_option linter.unusedSimpArgs false
set_option linter.unusedVariables false
set_option linter.defProp false
section
namespace Go.Proofs.YtafemfjhflfdeaaDoor
open Go Go.Proofs Go.Eng Go.Run Tab
set_option maxRecDepth 100000
set_option linter.unusedSimpArgs false
set_option linter.unusedVariables false
set_option linter.defProp false
set_option maxHeartbeats 4000000
set_option linter.defProp false
def H22Fs41 := (And.intro (And.intro (And.intro (And.intro @agg24 @agg3) (And.intro @agg54 @agg84)) (And.intro (And.intro @fo84_0 @fo84_1) (And.intro @fps54_0 (And.intro @fps54_1 @inf24)))) (And.intro (And.intro (And.intro @inf3 @inf54) (And.intro @inf84 (And.intro @okf54 @sz24))) (And.intro (And.intro @sz3 @sz54) (And.intro @sz84 (And.intro @zero54 @zero84)))))
def H22Fs43 := (And.intro (And.intro (And.intro @agg24 @agg54) (And.intro @agg84 (And.intro @inf24 @inf54))) (And.intro (And.intro @inf84 @sz24) (And.intro @sz54 (And.intro @sz84 @zero84))))
def H22Fs77 := (And.intro (And.intro (And.intro (And.intro @agg2 @agg22) (And.intro @agg24 (And.intro @agg84 @fo24_0))) (And.intro (And.intro @fo54_0 @fo54_1) (And.intro @fps84_0 (And.intro @fps84_1 @inf2)))) (And.intro (And.intro (And.intro @inf22 @inf24) (And.intro @inf84 (And.intro @okf84 @sz2))) (And.intro (And.intro @sz22 @sz24) (And.intro @sz84 (And.intro @zero84 @Tryd.underlying22)))))
abbrev rgV (lo hi : Int) : Value := .agg #[.int .i64 lo, .int .i64 hi]
def rgE (m : MV) (lo hi : Int) : Int := if chk m ≠ 0 then chk m else if lo < 0 ∨ hi < lo ∨ (m.casts.length : Int) ≤ hi then 3 else 0
theorem opn_nil (m : MV) : opn m [] = chk m := by
  unfold opn
  split
  · rfl
  · rename_i h1; rw [Classical.not_not.1 h1]; rfl
theorem ranged77 (m : MV) (lo hi : Int) (h : Eng.Heap) (hm : m.ok h) :
    CallsH Tryd.prog 77 #[m.val, rgV lo hi] h (fun v h' => Ext h h' ∧ ((rgE m lo hi = 0 ∧ ∃ b, v = .tuple #[.pointer (some ⟨b, 0, none⟩), rgV lo hi, .int .i64 0] ∧ Oven h' b m) ∨ (rgE m lo hi ≠ 0 ∧ v = .tuple #[.pointer none, rgV 0 0, .int .i64 (rgE m lo hi)]))) := by
  have hcl := hm.cl
  (refine CallsH_of_exec Tryd.func77 rfl bod77 ?_; simp only [Tryd.ntmps77, Tryd.results77, coreS, stK_some, splice, Value.cells, Value.oneCell', Nat.reduceAdd, Nat.reduceSub, Nat.reduceMul, Nat.reduceLeDiff, Int.reduceEq, Nat.reduceEqDiff, H22Fs77])
  simp only [show ¬ (h.size = h.size + 1 + 1) by omega, if_false, coreS, Value.cells, Value.oneCell', Nat.reduceAdd, Nat.reduceSub, Nat.reduceMul, Nat.reduceLeDiff, Int.reduceEq, Nat.reduceEqDiff, H22Fs77]
  have x0 : Ext h (((h.push (.cells #[.slice m.a m.casts.length m.ca, .slice m.b m.waits.length m.cb, .int .i64 m.lo, .int .i64 m.hi] 24)).push (.cells #[.int .i64 lo, .int .i64 hi] 54)).push (.cells #[.int .i64 0, .int .i64 0] 84)) := (((Ext.refl h).push _).push _).push _
  refine CallsH.mono (open56 m none 0 0 [] _ (hm.ext x0) (IntsV.nil _) (by omega)) ?_
  rintro v h1 ⟨x1, h1'⟩
  have y1 := x0.trans x1
  have b0 := x1.get (push_old (push_old (push_new (h := h))))
  have b1 := x1.get (push_old (pn1 (h := h)))
  have b2 : h1[h.size + 2]? = some (.cells #[.int .i64 0, .int .i64 0] 84) := x1.get (by rw [Array.getElem?_push, if_pos (by simp)])
  rw [opn_nil] at h1'
  rcases h1' with ⟨e0, b, rfl, ho, hbs⟩ | ⟨e0, rfl⟩
  · have key : lo < 0 ∨ hi < lo ∨ (m.casts.length : Int) ≤ hi → rgE m lo hi = 3 := fun h => by rw [rgE, if_neg (by omega), if_pos h]
    by_cases l1 : lo < 0
    case pos =>
      simp only [e0, b1, b2, l1, gd_none, decide_true, Bool.not_true, splice, coreS, Value.cells, Value.oneCell', Nat.reduceAdd, Nat.reduceSub, Nat.reduceMul, Nat.reduceLeDiff, Int.reduceEq, Nat.reduceEqDiff, H22Fs77]
      refine stK_abs b2 (by simp) fun h3 g3 u3 => ?_
      simp only [splice] at g3
      simp only [g3, splice, coreS, Value.cells, Value.oneCell', Nat.reduceAdd, Nat.reduceSub, Nat.reduceMul, Nat.reduceLeDiff, Int.reduceEq, Nat.reduceEqDiff, H22Fs77]
      have := key (.inl l1)
      exact ⟨u3.ext y1 (by omega), .inr ⟨by omega, by rw [this]⟩⟩
    by_cases l2 : hi < lo
    case pos =>
      simp only [e0, b1, b2, l1, l2, gd_none, decide_true, decide_false, Bool.not_true, splice, coreS, Value.cells, Value.oneCell', Nat.reduceAdd, Nat.reduceSub, Nat.reduceMul, Nat.reduceLeDiff, Int.reduceEq, Nat.reduceEqDiff, H22Fs77]
      refine stK_abs b2 (by simp) fun h3 g3 u3 => ?_
      simp only [splice] at g3
      simp only [g3, splice, coreS, Value.cells, Value.oneCell', Nat.reduceAdd, Nat.reduceSub, Nat.reduceMul, Nat.reduceLeDiff, Int.reduceEq, Nat.reduceEqDiff, H22Fs77]
      have := key (.inr (.inl l2))
      exact ⟨u3.ext y1 (by omega), .inr ⟨by omega, by rw [this]⟩⟩
    by_cases l3 : (m.casts.length : Int) ≤ hi
    case pos =>
      simp only [e0, b0, b1, b2, l1, l2, l3, gd_none, decide_true, decide_false, Bool.not_true, splice, coreS, Value.cells, Value.oneCell', Nat.reduceAdd, Nat.reduceSub, Nat.reduceMul, Nat.reduceLeDiff, Int.reduceEq, Nat.reduceEqDiff, H22Fs77]
      refine stK_abs b2 (by simp) fun h3 g3 u3 => ?_
      simp only [splice] at g3
      simp only [g3, splice, coreS, Value.cells, Value.oneCell', Nat.reduceAdd, Nat.reduceSub, Nat.reduceMul, Nat.reduceLeDiff, Int.reduceEq, Nat.reduceEqDiff, H22Fs77]
      have := key (.inr (.inr l3))
      exact ⟨u3.ext y1 (by omega), .inr ⟨by omega, by rw [this]⟩⟩
    have hR : rgE m lo hi = 0 := by rw [rgE, if_neg (by omega), if_neg (by omega)]
    simp only [e0, b0, b1, b2, l1, l2, l3, gd_none, decide_true, decide_false, Bool.not_true, splice, coreS, Value.cells, Value.oneCell', Nat.reduceAdd, Nat.reduceSub, Nat.reduceMul, Nat.reduceLeDiff, Int.reduceEq, Nat.reduceEqDiff, H22Fs77]
    refine WP_draw (by kernel_rfl) sta_eq [(0, 0), (1, 0), (2, 0), (3, 0), (4, 0), (5, 0), (6, 0), (7, 1), (8, 0)] (by kernel_rfl) rfl (by kernel_rfl) ?_
    simp only [b1, b2, hvK_eq, splice, coreS, Value.cells, Value.oneCell', Nat.reduceAdd, Nat.reduceSub, Nat.reduceMul, Nat.reduceLeDiff, Int.reduceEq, Nat.reduceEqDiff, drawS, H22Fs77]
    refine stK_abs b2 (by simp) fun h3 g3 u3 => ?_
    simp only [splice] at g3
    simp only [hvK_eq, g3, splice, coreS, Value.cells, Value.oneCell', Nat.reduceAdd, Nat.reduceSub, Nat.reduceMul, Nat.reduceLeDiff, Int.reduceEq, Nat.reduceEqDiff, drawS, H22Fs77]
    exact ⟨u3.ext y1 (by omega), .inl ⟨hR, b, rfl, u3.get ho (by simp only [Array.size_push] at hbs; omega)⟩⟩
  · have e1 : rgE m lo hi = chk m := by rw [rgE, if_pos e0]
    simp only [e0, b2, decide_false, Bool.not_false, splice, coreS, Value.cells, Value.oneCell', Nat.reduceAdd, Nat.reduceSub, Nat.reduceMul, Nat.reduceLeDiff, Int.reduceEq, Nat.reduceEqDiff, H22Fs77]
    refine stK_abs b2 (by simp) fun h3 g3 u3 => ?_
    simp only [splice] at g3
    simp only [g3, splice, coreS, Value.cells, Value.oneCell', Nat.reduceAdd, Nat.reduceSub, Nat.reduceMul, Nat.reduceLeDiff, Int.reduceEq, Nat.reduceEqDiff, H22Fs77]
    exact ⟨u3.ext y1 (by omega), .inr ⟨by rw [e1]; exact e0, by rw [e1]⟩⟩
def raE (m : MV) (lo hi : Int) (s : ByteArray) : Int := if rgE m lo hi ≠ 0 then rgE m lo hi else if formE s ≠ 0 then formE s else if (m.ov.run (lo.toNat, hi.toNat) (bits s)).isNone then 22 else 0
def raV (m : MV) (lo hi : Int) (s : ByteArray) : OV.Sp := if raE m lo hi s = 0 then (m.ov.run (lo.toNat, hi.toNat) (bits s)).getD (0, 0) else (0, 0)
theorem rg_in {m : MV} {lo hi : Int} (h : rgE m lo hi = 0) : ∃ i j : Nat, lo = i ∧ hi = j ∧ i ≤ j ∧ j < m.casts.length ∧ m.casts.length ≤ 16 ∧ m.Good ∧ m.ov.In (i, j) := by
  unfold rgE at h
  split at h
  · rename_i h1; exact absurd h h1
  · rename_i h1
    have h1 := Classical.not_not.1 h1
    split at h
    · cases h
    · rename_i h2
      have gd := good_of h1
      have hn : m.ov.n = m.casts.length := rfl
      exact ⟨lo.toNat, hi.toNat, by omega, by omega, by omega, by omega, (chk_pos h1).1.2, gd, by show _ < _; omega, by show _ < _; omega⟩
theorem runAll41 (m : MV) (lo hi : Int) (s : ByteArray) (h : Eng.Heap) (hm : m.ok h) (hs : s.size ≤ 9223372036854775807) :
    CallsH Tryd.prog 41 #[m.val, rgV lo hi, .string s] h (fun v h' => v = .tuple #[spV (raV m lo hi s), .int .i64 (raE m lo hi s)] ∧ Ext h h') := by
  have key : ∀ {e : Int} {P : Prop}, raE m lo hi s = e → e ≠ 0 → P → Value.tuple #[.agg #[.int .i64 0, .int .i64 0], .int .i64 e] = .tuple #[spV (raV m lo hi s), .int .i64 (raE m lo hi s)] ∧ P := by
    rintro e P rfl he hP
    exact ⟨by rw [raV, if_neg he]; rfl, hP⟩
  (refine CallsH_of_exec Tryd.func41 rfl bod41 ?_; simp only [Tryd.ntmps41, Tryd.results41, coreS, stK_some, splice, Value.cells, Value.oneCell', Nat.reduceAdd, Nat.reduceSub, Nat.reduceMul, Nat.reduceLeDiff, Int.reduceEq, Nat.reduceEqDiff, H22Fs41])
  simp only [show ¬ (h.size = h.size + 1 + 1) by omega, if_false, coreS, Value.cells, Value.oneCell', Nat.reduceAdd, Nat.reduceSub, Nat.reduceMul, Nat.reduceLeDiff, Int.reduceEq, Nat.reduceEqDiff, H22Fs41]
  have x0 : Ext h (((h.push (.cells #[.slice m.a m.casts.length m.ca, .slice m.b m.waits.length m.cb, .int .i64 m.lo, .int .i64 m.hi] 24)).push (.cells #[.int .i64 lo, .int .i64 hi] 54)).push (.cells #[.int .i64 0, .int .i64 0] 54)) := (((Ext.refl h).push _).push _).push _
  refine CallsH.mono (ranged77 m lo hi _ (hm.ext x0)) ?_
  rintro v h1 ⟨x1, h1'⟩
  have y1 := x0.trans x1
  have b2 : h1[h.size + 2]? = some (.cells #[.int .i64 0, .int .i64 0] 54) := x1.get (by rw [Array.getElem?_push, if_pos (by simp)])
  have hz := lt_of_get b2
  have hz2 := y1.size
  rcases h1' with ⟨e0, b, rfl, ho⟩ | ⟨e0, rfl⟩
  · obtain ⟨i, j, rfl, rfl, hij, hj, h16, gd, hin⟩ := rg_in e0
    simp only [splice, coreS, Value.cells, Value.oneCell', Nat.reduceAdd, Nat.reduceSub, Nat.reduceMul, Nat.reduceLeDiff, Int.reduceEq, Nat.reduceEqDiff, H22Fs41]
    refine stK_abs (push_new (h := h1) (o := .cells #[.int .i64 0, .int .i64 0] 84)) (by simp) fun h2 g2 u2 => ?_
    simp only [splice] at g2
    have k2 := u2.get (push_old b2) (by omega)
    have ko := u2.get (push_old ho) (by have := lt_of_get ho; omega)
    have y2 : Ext h h2 := u2.ext (y1.push _) hz2
    have z2 := lt_of_get k2
    have hs2 : h2.size = h1.size + 1 := by rw [u2.size]; simp
    have e1 : raE m i j s = if formE s ≠ 0 then formE s else if (m.ov.run (i, j) (bits s)).isNone then 22 else 0 := by rw [raE, if_neg (by simpa using e0), Int.toNat_natCast, Int.toNat_natCast]
    simp only [decide_true, Bool.not_true, coreS, Value.cells, Value.oneCell', Nat.reduceAdd, Nat.reduceSub, Nat.reduceMul, Nat.reduceLeDiff, Int.reduceEq, Nat.reduceEqDiff, H22Fs41]
    refine CallsH.mono (letters57 s h2 hs) ?_
    rintro v h3 ⟨rfl, x3⟩
    have y3 := y2.trans x3
    have k3 := x3.get k2
    by_cases hf : formE s = 0
    · obtain ⟨hs5, hl⟩ := form_ok hf
      rw [if_neg (by simpa using hf)] at e1
      simp only [hf, x3.get g2, decide_true, Bool.not_true, coreS, Value.cells, Value.oneCell', Nat.reduceAdd, Nat.reduceSub, Nat.reduceMul, Nat.reduceLeDiff, Int.reduceEq, Nat.reduceEqDiff, H22Fs41]
      refine CallsH.mono (run58 m b (i, j) s h3 gd (hm.ext y3) (x3.get ko) hin hl) ?_
      rintro v h4 ⟨rfl, x4⟩
      have y4 := y3.trans x4
      have k4 := x4.get k3
      have z4 := lt_of_get k4
      have zz := y4.size
      cases hr : m.ov.run (i, j) (bits s) with
      | none =>
        rw [hr] at e1
        simp only [runV, k4, splice, coreS, Value.cells, Value.oneCell', Nat.reduceAdd, Nat.reduceSub, Nat.reduceMul, Nat.reduceLeDiff, Int.reduceEq, Nat.reduceEqDiff, H22Fs41]
        refine stK_abs (push_new (h := h4) (o := .cells #[.int .i64 0, .int .i64 0] 84)) (by simp) fun h5 g5 u5 => ?_
        simp only [splice] at g5
        have k5 := u5.get (push_old k4) (by omega)
        simp only [k5, Bool.not_false, splice, coreS, Value.cells, Value.oneCell', Nat.reduceAdd, Nat.reduceSub, Nat.reduceMul, Nat.reduceLeDiff, Int.reduceEq, Nat.reduceEqDiff, H22Fs41]
        refine stK_abs k5 (by simp) fun h6 g6 u6 => ?_
        simp only [splice] at g6
        simp only [g6, splice, coreS, Value.cells, Value.oneCell', Nat.reduceAdd, Nat.reduceSub, Nat.reduceMul, Nat.reduceLeDiff, Int.reduceEq, Nat.reduceEqDiff, H22Fs41]
        exact key e1 (by omega) (u6.ext (u5.ext (y4.push _) zz) (by omega))
      | some t =>
        rw [hr] at e1
        have hE : raE m i j s = 0 := e1
        have hV : raV m i j s = t := by rw [raV, if_pos hE, Int.toNat_natCast, Int.toNat_natCast, hr]; rfl
        simp only [runV, k4, splice, coreS, Value.cells, Value.oneCell', Nat.reduceAdd, Nat.reduceSub, Nat.reduceMul, Nat.reduceLeDiff, Int.reduceEq, Nat.reduceEqDiff, H22Fs41]
        refine stK_abs (push_new (h := h4) (o := .cells #[.int .i64 0, .int .i64 0] 84)) (by simp) fun h5 g5 u5 => ?_
        simp only [splice] at g5
        have k5 := u5.get (push_old k4) (by omega)
        simp only [g5, k5, Bool.not_true, splice, coreS, Value.cells, Value.oneCell', Nat.reduceAdd, Nat.reduceSub, Nat.reduceMul, Nat.reduceLeDiff, Int.reduceEq, Nat.reduceEqDiff, H22Fs41]
        refine stK_abs k5 (by simp) fun h6 g6 u6 => ?_
        simp only [splice] at g6
        simp only [g6, splice, coreS, Value.cells, Value.oneCell', Nat.reduceAdd, Nat.reduceSub, Nat.reduceMul, Nat.reduceLeDiff, Int.reduceEq, Nat.reduceEqDiff, H22Fs41]
        exact ⟨by rw [hE, hV], u6.ext (u5.ext (y4.push _) zz) (by omega)⟩
    · simp only [hf, k3, decide_false, Bool.not_false, splice, coreS, Value.cells, Value.oneCell', Nat.reduceAdd, Nat.reduceSub, Nat.reduceMul, Nat.reduceLeDiff, Int.reduceEq, Nat.reduceEqDiff, H22Fs41]
      refine stK_abs k3 (by simp) fun h5 g5 u5 => ?_
      simp only [splice] at g5
      simp only [g5, splice, coreS, Value.cells, Value.oneCell', Nat.reduceAdd, Nat.reduceSub, Nat.reduceMul, Nat.reduceLeDiff, Int.reduceEq, Nat.reduceEqDiff, H22Fs41]
      exact key (by rw [e1, if_pos hf]) hf (u5.ext y3 (by omega))
  · simp only [e0, b2, decide_false, Bool.not_false, splice, coreS, Value.cells, Value.oneCell', Nat.reduceAdd, Nat.reduceSub, Nat.reduceMul, Nat.reduceLeDiff, Int.reduceEq, Nat.reduceEqDiff, H22Fs41]
    refine stK_abs (push_new (h := h1) (o := .cells #[.int .i64 0, .int .i64 0] 84)) (by simp) fun h2 g2 u2 => ?_
    simp only [splice] at g2
    have k2 := u2.get (push_old b2) (by omega)
    simp only [e0, k2, decide_false, Bool.not_false, splice, coreS, Value.cells, Value.oneCell', Nat.reduceAdd, Nat.reduceSub, Nat.reduceMul, Nat.reduceLeDiff, Int.reduceEq, Nat.reduceEqDiff, H22Fs41]
    refine stK_abs k2 (by simp) fun h5 g5 u5 => ?_
    simp only [splice] at g5
    simp only [g5, splice, coreS, Value.cells, Value.oneCell', Nat.reduceAdd, Nat.reduceSub, Nat.reduceMul, Nat.reduceLeDiff, Int.reduceEq, Nat.reduceEqDiff, H22Fs41]
    exact key (by rw [raE, if_pos e0]) e0 (u5.ext (u2.ext (y1.push _) hz2) (by omega))
def suE (m : MV) (lo hi k : Int) : Int := if rgE m lo hi ≠ 0 then rgE m lo hi else fromE m (lo.toNat, hi.toNat) k
def suP (m : MV) (lo hi k : Int) : ByteArray := if suE m lo hi k = 0 then planS (m.ov.pl k.toNat (lo.toNat, hi.toNat)) else ⟨#[]⟩
theorem surely43 (m : MV) (lo hi k : Int) (h : Eng.Heap) (hm : m.ok h) :
    CallsH Tryd.prog 43 #[m.val, rgV lo hi, .int .i64 k] h (fun v h' => v = .tuple #[.string (suP m lo hi k), .int .i64 (suE m lo hi k)] ∧ Ext h h') := by
  (refine CallsH_of_exec Tryd.func43 rfl bod43 ?_; simp only [Tryd.ntmps43, Tryd.results43, coreS, stK_some, splice, Value.cells, Value.oneCell', Nat.reduceAdd, Nat.reduceSub, Nat.reduceMul, Nat.reduceLeDiff, Int.reduceEq, Nat.reduceEqDiff, H22Fs43])
  have x0 : Ext h ((h.push (.cells #[.slice m.a m.casts.length m.ca, .slice m.b m.waits.length m.cb, .int .i64 m.lo, .int .i64 m.hi] 24)).push (.cells #[.int .i64 lo, .int .i64 hi] 54)) := ((Ext.refl h).push _).push _
  refine CallsH.mono (ranged77 m lo hi _ (hm.ext x0)) ?_
  rintro v h1 ⟨x1, h1'⟩
  have y1 := x0.trans x1
  have hz2 := y1.size
  rcases h1' with ⟨e0, b, rfl, ho⟩ | ⟨e0, rfl⟩
  · obtain ⟨i, j, rfl, rfl, hij, hj, h16, gd, hin⟩ := rg_in e0
    simp only [splice, coreS, Value.cells, Value.oneCell', Nat.reduceAdd, Nat.reduceSub, Nat.reduceMul, Nat.reduceLeDiff, Int.reduceEq, Nat.reduceEqDiff, H22Fs43]
    refine stK_abs (push_new (h := h1) (o := .cells #[.int .i64 0, .int .i64 0] 84)) (by simp) fun h2 g2 u2 => ?_
    simp only [splice] at g2
    have ko := u2.get (push_old ho) (by have := lt_of_get ho; omega)
    have y2 : Ext h h2 := u2.ext (y1.push _) hz2
    have e1 : suE m i j k = fromE m (i, j) k := by rw [suE, if_neg (by simpa using e0)]; rfl
    have e2 : suP m i j k = fromP m (i, j) k := by rw [suP, fromP, e1]; rfl
    rw [e1, e2]
    simp only [g2, decide_true, Bool.not_true, coreS, Value.cells, Value.oneCell', Nat.reduceAdd, Nat.reduceSub, Nat.reduceMul, Nat.reduceLeDiff, Int.reduceEq, Nat.reduceEqDiff, H22Fs43]
    refine CallsH.mono (planned66 m gd h16 b (i, j) k h2 hin (hm.ext y2) ko) ?_
    rintro v h3 ⟨rfl, x3⟩
    simp only [coreS, Value.cells, Value.oneCell', Nat.reduceAdd, Nat.reduceSub, Nat.reduceMul, Nat.reduceLeDiff, Int.reduceEq, Nat.reduceEqDiff, H22Fs43]
    exact y2.trans x3
  · simp only [splice, coreS, Value.cells, Value.oneCell', Nat.reduceAdd, Nat.reduceSub, Nat.reduceMul, Nat.reduceLeDiff, Int.reduceEq, Nat.reduceEqDiff, H22Fs43]
    refine stK_abs (push_new (h := h1) (o := .cells #[.int .i64 0, .int .i64 0] 84)) (by simp) fun h2 g2 u2 => ?_
    simp only [e0, decide_false, Bool.not_false, coreS, Value.cells, Value.oneCell', Nat.reduceAdd, Nat.reduceSub, Nat.reduceMul, Nat.reduceLeDiff, Int.reduceEq, Nat.reduceEqDiff, H22Fs43]
    have e1 : suE m lo hi k = rgE m lo hi := by rw [suE, if_pos e0]
    exact ⟨by rw [suP, e1, if_neg e0], u2.ext (y1.push _) hz2⟩
end Go.Proofs.YtafemfjhflfdeaaDoor
end
section
namespace Go.Proofs.YtafemfjhflfdeaaDoor
set_option linter.unusedSimpArgs false
set_option linter.unusedVariables false
set_option linter.defProp false
set_option maxRecDepth 100000
namespace OV
variable {o : OV}
theorem lw_table (ok : o.ok) (T : List (List (Option Nat))) (K : Nat) (h0 : ∀ i, i < o.n → (T.getD 0 []).getD i none = some 0)
    (hs : ∀ k, k < K → ∀ i, i < o.n → (T.getD (k + 1) []).getD i none = better (if o.can (i, i) then (T.getD k []).getD (o.c i) none else none) (if o.w i = i then none else ((T.getD (k + 1) []).getD (o.w i) none).map (· + 1))) :
    ∀ k, k ≤ K → ∀ i, i < o.n → o.lw k (i, i) = (T.getD k []).getD i none := by
  intro k
  induction k with
  | zero => intro _ i hi; rw [h0 i hi, lw_zero]
  | succ k ihk =>
    intro hk i
    induction i using Nat.strongRecOn with
    | _ i ih =>
      intro hi
      have hwi := ok.wg i hi
      rw [lw_succ ok ⟨hi, hi⟩, hs k (by omega) i hi]
      have e1 : (if o.can (i, i) = true then o.lw k (o.C (i, i)) else none) = (if o.can (i, i) = true then (T.getD k []).getD (o.c i) none else none) := by
        rw [show o.C (i, i) = (o.c i, o.c i) from rfl, ihk (by omega) (o.c i) (ok.cl i hi)]
      rw [e1]
      by_cases hw : o.w i = i
      · rw [if_pos hw, if_pos (show o.W (i, i) = (i, i) from Prod.ext hw hw)]
      · rw [if_neg hw, if_neg (fun h => hw (congrArg Prod.fst h)), show o.W (i, i) = (o.w i, o.w i) from rfl, ih (o.w i) (by omega) (by omega)]
theorem bk_table (T : List (List (List Nat))) (h0 : ∀ j, j < o.n → o.cool (o.st j) = (T.getD j []).getD 0 [])
    (hs : ∀ j, j < o.n → ∀ k, k < o.n → o.cool (o.cst ((T.getD j []).getD k [])) = (T.getD j []).getD (k + 1) []) :
    ∀ j, j < o.n → ∀ k, k ≤ o.n → o.bk j k = (T.getD j []).getD k [] := by
  intro j hj k
  induction k with
  | zero => intro _; exact h0 j hj
  | succ k ih => intro hk; rw [bk, ih (by omega), hs j hj k (by omega)]
theorem rch_table (i : Nat) (T : List (List Bool)) (h0 : o.rone i = T.getD 0 []) (hs : ∀ k, k < o.n → o.rpass (T.getD k []) = T.getD (k + 1) []) : o.rch i = T.getD o.n [] := by
  have key : ∀ k, k ≤ o.n → o.rit (o.rone i) k = T.getD k [] := by
    intro k
    induction k with
    | zero => intro _; exact h0
    | succ k ih => intro hk; rw [rit, ih (by omega), hs k (by omega)]
  exact key o.n (Nat.le_refl _)
def rtXT (T : List (List (List Nat))) (R : List Bool) (h k : Nat) : List (Nat × Nat) := if decide ((((T.getD h []).getD k []).getD h 0) < far) && R.getD h false then [byP (((T.getD h []).getD k []).getD h 0) k] else []
def rateT (n : Nat) (T : List (List (List Nat))) (R : List Bool) : Nat × Nat := match (List.range n).flatMap (fun h => (List.range n).flatMap fun j => rtXT T R h (j + 1)) with
  | [] => (0, 0)
  | x :: l => bestQ x l
theorem flat_congr {α β : Type} {f g : α → List β} : ∀ {l : List α}, (∀ x ∈ l, f x = g x) → l.flatMap f = l.flatMap g
  | [], _ => rfl
  | x :: l, H => by rw [List.flatMap_cons, List.flatMap_cons, H x List.mem_cons_self, flat_congr fun y hy => H y (List.mem_cons_of_mem _ hy)]
theorem rate_table {i : Nat} {T : List (List (List Nat))} {R : List Bool} (hT : ∀ j, j < o.n → ∀ k, k ≤ o.n → o.bk j k = (T.getD j []).getD k []) (hR : o.rch i = R) : o.rate i = rateT o.n T R := by
  have e : o.rtL i o.n = (List.range o.n).flatMap (fun h => (List.range o.n).flatMap fun j => rtXT T R h (j + 1)) := by
    rw [rtL]
    refine flat_congr fun h hh => ?_
    rw [rtH]
    refine flat_congr fun j hj => ?_
    have hh := List.mem_range.1 hh
    have hj := List.mem_range.1 hj
    rw [rtX, isBk, hT h hh (j + 1) (by omega), hR, rtXT]
  rw [rate, e]
  rfl
def good : OV := ⟨8, fun i => (([2, 3, 4, 5, 6, 7, 7, 7] : List Int).getD i 0).toNat, fun i => (([0, 0, 1, 1, 2, 3, 4, 4] : List Int).getD i 0).toNat, 2, 5⟩
def stuck : OV := ⟨8, fun i => (([2, 3, 4, 5, 6, 7, 7, 7] : List Int).getD i 0).toNat, fun i => (([0, 0, 1, 1, 2, 3, 6, 6] : List Int).getD i 0).toNat, 4, 5⟩
def goodT : List (List (Option Nat)) := [[some 0, some 0, some 0, some 0, some 0, some 0, some 0, some 0],
  [none, none, some 0, some 0, some 0, some 0, some 1, some 1],
  [none, none, some 0, some 0, some 1, some 1, some 2, some 2],
  [none, none, some 1, some 1, some 2, some 2, some 3, some 3],
  [none, none, some 2, some 2, some 3, some 3, some 4, some 4],
  [none, none, some 3, some 3, some 4, some 4, some 5, some 5],
  [none, none, some 4, some 4, some 5, some 5, some 6, some 6],
  [none, none, some 5, some 5, some 6, some 6, some 7, some 7],
  [none, none, some 6, some 6, some 7, some 7, some 8, some 8],
  [none, none, some 7, some 7, some 8, some 8, some 9, some 9]]
def stuckT : List (List (Option Nat)) := [[some 0, some 0, some 0, some 0, some 0, some 0, some 0, some 0],
  [none, none, none, none, some 0, some 0, none, none],
  [none, none, none, none, none, none, none, none],
  [none, none, none, none, none, none, none, none],
  [none, none, none, none, none, none, none, none],
  [none, none, none, none, none, none, none, none],
  [none, none, none, none, none, none, none, none],
  [none, none, none, none, none, none, none, none],
  [none, none, none, none, none, none, none, none],
  [none, none, none, none, none, none, none, none]]
def goodB : List (List (List Nat)) := [[[0, 1048576, 1048576, 1048576, 1048576, 1048576, 1048576, 1048576], [1048576, 1048576, 1048576, 1048576, 1048576, 1048576, 1048576, 1048576], [1048576, 1048576, 1048576, 1048576, 1048576, 1048576, 1048576, 1048576], [1048576, 1048576, 1048576, 1048576, 1048576, 1048576, 1048576, 1048576], [1048576, 1048576, 1048576, 1048576, 1048576, 1048576, 1048576, 1048576], [1048576, 1048576, 1048576, 1048576, 1048576, 1048576, 1048576, 1048576], [1048576, 1048576, 1048576, 1048576, 1048576, 1048576, 1048576, 1048576], [1048576, 1048576, 1048576, 1048576, 1048576, 1048576, 1048576, 1048576], [1048576, 1048576, 1048576, 1048576, 1048576, 1048576, 1048576, 1048576]],
  [[1, 0, 1048576, 1048576, 1048576, 1048576, 1048576, 1048576], [1048576, 1048576, 1048576, 1048576, 1048576, 1048576, 1048576, 1048576], [1048576, 1048576, 1048576, 1048576, 1048576, 1048576, 1048576, 1048576], [1048576, 1048576, 1048576, 1048576, 1048576, 1048576, 1048576, 1048576], [1048576, 1048576, 1048576, 1048576, 1048576, 1048576, 1048576, 1048576], [1048576, 1048576, 1048576, 1048576, 1048576, 1048576, 1048576, 1048576], [1048576, 1048576, 1048576, 1048576, 1048576, 1048576, 1048576, 1048576], [1048576, 1048576, 1048576, 1048576, 1048576, 1048576, 1048576, 1048576], [1048576, 1048576, 1048576, 1048576, 1048576, 1048576, 1048576, 1048576]],
  [[2, 1, 0, 1048576, 1048576, 1048576, 1048576, 1048576], [3, 2, 1, 1048576, 0, 1048576, 1048576, 1048576], [4, 3, 2, 1048576, 1, 1048576, 0, 1048576], [5, 4, 3, 1048576, 2, 1048576, 1, 1048576], [6, 5, 4, 1048576, 3, 1048576, 2, 1048576], [7, 6, 5, 1048576, 4, 1048576, 3, 1048576], [8, 7, 6, 1048576, 5, 1048576, 4, 1048576], [9, 8, 7, 1048576, 6, 1048576, 5, 1048576], [10, 9, 8, 1048576, 7, 1048576, 6, 1048576]],
  [[2, 1, 1048576, 0, 1048576, 1048576, 1048576, 1048576], [3, 2, 1048576, 1, 1048576, 0, 1048576, 1048576], [4, 3, 2, 2, 1, 1, 1048576, 0], [5, 4, 3, 3, 2, 2, 1, 1], [6, 5, 4, 4, 3, 3, 2, 2], [7, 6, 5, 5, 4, 4, 3, 3], [8, 7, 6, 6, 5, 5, 4, 4], [9, 8, 7, 7, 6, 6, 5, 5], [10, 9, 8, 8, 7, 7, 6, 6]],
  [[3, 2, 1, 1048576, 0, 1048576, 1048576, 1048576], [4, 3, 2, 1048576, 1, 1048576, 0, 1048576], [5, 4, 3, 1048576, 2, 1048576, 1, 1048576], [6, 5, 4, 1048576, 3, 1048576, 2, 1048576], [7, 6, 5, 1048576, 4, 1048576, 3, 1048576], [8, 7, 6, 1048576, 5, 1048576, 4, 1048576], [9, 8, 7, 1048576, 6, 1048576, 5, 1048576], [10, 9, 8, 1048576, 7, 1048576, 6, 1048576], [11, 10, 9, 1048576, 8, 1048576, 7, 1048576]],
  [[3, 2, 1048576, 1, 1048576, 0, 1048576, 1048576], [4, 3, 2, 2, 1, 1, 1048576, 0], [5, 4, 3, 3, 2, 2, 1, 1], [6, 5, 4, 4, 3, 3, 2, 2], [7, 6, 5, 5, 4, 4, 3, 3], [8, 7, 6, 6, 5, 5, 4, 4], [9, 8, 7, 7, 6, 6, 5, 5], [10, 9, 8, 8, 7, 7, 6, 6], [11, 10, 9, 9, 8, 8, 7, 7]],
  [[4, 3, 2, 1048576, 1, 1048576, 0, 1048576], [5, 4, 3, 1048576, 2, 1048576, 1, 1048576], [6, 5, 4, 1048576, 3, 1048576, 2, 1048576], [7, 6, 5, 1048576, 4, 1048576, 3, 1048576], [8, 7, 6, 1048576, 5, 1048576, 4, 1048576], [9, 8, 7, 1048576, 6, 1048576, 5, 1048576], [10, 9, 8, 1048576, 7, 1048576, 6, 1048576], [11, 10, 9, 1048576, 8, 1048576, 7, 1048576], [12, 11, 10, 1048576, 9, 1048576, 8, 1048576]],
  [[4, 3, 2, 1048576, 1, 1048576, 1048576, 0], [5, 4, 3, 1048576, 2, 1048576, 1, 1048576], [6, 5, 4, 1048576, 3, 1048576, 2, 1048576], [7, 6, 5, 1048576, 4, 1048576, 3, 1048576], [8, 7, 6, 1048576, 5, 1048576, 4, 1048576], [9, 8, 7, 1048576, 6, 1048576, 5, 1048576], [10, 9, 8, 1048576, 7, 1048576, 6, 1048576], [11, 10, 9, 1048576, 8, 1048576, 7, 1048576], [12, 11, 10, 1048576, 9, 1048576, 8, 1048576]]]
def goodR : List (List Bool) := [[false, false, false, true, false, false, false, false],
  [false, true, false, true, true, true, false, true],
  [true, true, true, true, true, true, true, true],
  [true, true, true, true, true, true, true, true],
  [true, true, true, true, true, true, true, true],
  [true, true, true, true, true, true, true, true],
  [true, true, true, true, true, true, true, true],
  [true, true, true, true, true, true, true, true],
  [true, true, true, true, true, true, true, true]]
theorem good_rate : good.rate 3 = (1, 1) := by
  rw [rate_table (bk_table goodB (by decide +kernel) (by decide +kernel)) (rch_table 3 goodR (by decide +kernel) (by decide +kernel))]
  decide +kernel
theorem good_lw (ok : good.ok) : ∀ k, k ≤ 9 → ∀ i, i < 8 → good.lw k (i, i) = (goodT.getD k []).getD i none := lw_table ok goodT 9 (by decide +kernel) (by decide +kernel)
theorem stuck_lw (ok : stuck.ok) : ∀ k, k ≤ 9 → ∀ i, i < 8 → stuck.lw k (i, i) = (stuckT.getD k []).getD i none := lw_table ok stuckT 9 (by decide +kernel) (by decide +kernel)
def mostT (t : Nat → Bool) : Nat → Nat → Option Nat
  | 0, _ => none
  | f + 1, k => if t (k + 1) then mostT t f (k + 1) else some k
theorem mostF_T {s : Sp} {t : Nat → Bool} : ∀ (f k : Nat), (∀ j, j ≤ k + f → (o.lw j s).isSome = t j) → o.mostF s f k = mostT t f k
  | 0, _, _ => rfl
  | f + 1, k, H => by
    have h1 := H (k + 1) (by omega)
    rw [mostF, mostT, mostF_T f (k + 1) fun j hj => H j (by omega)]
    cases hx : o.lw (k + 1) s <;> rw [hx] at h1 <;> simp [← h1]
theorem good_most (ok : good.ok) {i : Nat} (hi : i < 8) : good.most i = mostT (fun j => ((goodT.getD j []).getD i none).isSome) 9 0 :=
  mostF_T 9 0 fun j hj => by rw [good_lw ok j (by omega) i hi]
theorem stuck_most (ok : stuck.ok) {i : Nat} (hi : i < 8) : stuck.most i = mostT (fun j => ((stuckT.getD j []).getD i none).isSome) 9 0 :=
  mostF_T 9 0 fun j hj => by rw [stuck_lw ok j (by omega) i hi]
end OV
end Go.Proofs.YtafemfjhflfdeaaDoor
end
section
namespace Go.Proofs.YtafemfjhflfdeaaDoor
open Go Go.Proofs Go.Eng Go.Run Tab
set_option maxRecDepth 100000
set_option linter.unusedSimpArgs false
set_option linter.unusedVariables false
set_option linter.defProp false
set_option maxHeartbeats 4000000
set_option linter.defProp false
def H30Fs49 := (And.intro (And.intro @agg54 (And.intro @fps54_0 @fps54_1)) (And.intro (And.intro @inf54 @okf54) (And.intro @sz54 @zero54)))
def H30Fs52 := (And.intro (And.intro (And.intro @agg24 @by3) (And.intro @inf24 @inf3)) (And.intro (And.intro @sz24 @sz3) (And.intro @zero24 (And.intro @zero3 @Tryd.underlying22))))
def H30Fs53 := (And.intro (And.intro (And.intro @agg24 @by3) (And.intro @inf24 @inf3)) (And.intro (And.intro @sz24 @sz3) (And.intro @zero24 (And.intro @zero3 @Tryd.underlying22))))
def H30Fs55 := (And.intro (And.intro @agg45 (And.intro @fps45_0 @fps45_1)) (And.intro (And.intro @inf45 @okf45) (And.intro @sz45 @zero45)))
def H30Fs79 := (And.intro (And.intro (And.intro (And.intro @agg22 @agg24) (And.intro @by3 @fo24_0)) (And.intro (And.intro @fo24_1 @fps24_2) (And.intro @fps24_3 @inf22))) (And.intro (And.intro (And.intro @inf24 @inf3) (And.intro @okf24 @sz22)) (And.intro (And.intro @sz24 @sz3) (And.intro @zero24 @Tryd.underlying22))))
theorem of54 (v : Value) (h : Eng.Heap) : CallsH Tryd.prog 54 #[v] h (fun r h' => r = v ∧ h' = h) := by
  (refine CallsH_of_exec Tryd.func54 rfl bod54 ?_; simp only [Tryd.ntmps54, Tryd.results54, coreS, stK_some, splice, Value.cells, Value.oneCell', Nat.reduceAdd, Nat.reduceSub, Nat.reduceMul, Nat.reduceLeDiff, Int.reduceEq, Nat.reduceEqDiff])
theorem by55 (x y : Int) (h : Eng.Heap) : CallsH Tryd.prog 55 #[.int .i64 x, .int .i64 y] h (fun r h' => r = .agg #[.int .i64 x, .int .i64 y] ∧ Ext h h') := by
  (refine CallsH_of_exec Tryd.func55 rfl bod55 ?_; simp only [Tryd.ntmps55, Tryd.results55, coreS, stK_some, splice, Value.cells, Value.oneCell', Nat.reduceAdd, Nat.reduceSub, Nat.reduceMul, Nat.reduceLeDiff, Int.reduceEq, Nat.reduceEqDiff, H30Fs55])
  exact (Ext.refl h).push _
theorem to49 (x y : Int) (h : Eng.Heap) : CallsH Tryd.prog 49 #[.int .i64 x, .int .i64 y] h (fun r h' => r = rgV x y ∧ Ext h h') := by
  (refine CallsH_of_exec Tryd.func49 rfl bod49 ?_; simp only [Tryd.ntmps49, Tryd.results49, coreS, stK_some, splice, Value.cells, Value.oneCell', Nat.reduceAdd, Nat.reduceSub, Nat.reduceMul, Nat.reduceLeDiff, Int.reduceEq, Nat.reduceEqDiff, H30Fs49])
  exact (Ext.refl h).push _
theorem mould79 (lo hi : Int) (g : Nat) (h : Eng.Heap) :
    CallsH Tryd.prog 79 #[.int .i64 lo, .int .i64 hi, .int .i64 8, .slice (some ⟨g, 0, none⟩) 16 16] h (fun r h' => r = .agg #[.slice (some ⟨g, 0, none⟩) 8 16, .slice (some ⟨g, 8, none⟩) 8 8, .int .i64 lo, .int .i64 hi] ∧ Ext h h') := by
  (refine CallsH_of_exec Tryd.func79 rfl bod79 ?_; simp only [Tryd.ntmps79, Tryd.results79, coreS, stK_some, splice, Value.cells, Value.oneCell', Nat.reduceAdd, Nat.reduceSub, Nat.reduceMul, Nat.reduceLeDiff, Int.reduceEq, Nat.reduceEqDiff, H30Fs79])
  obtain ⟨H2, hH2⟩ : ∃ H2, H2 = updH ((h.push (.cells #[.slice none 0 0, .slice none 0 0, .int .i64 0, .int .i64 0] 24)).push (.cells #[.slice none 0 0, .slice none 0 0, .int .i64 0, .int .i64 0] 24)) (h.size + 1) [.slice none 0 0, .slice none 0 0, .int .i64 lo, .int .i64 hi] 24 := ⟨_, rfl⟩
  have g2 : H2[h.size + 1]? = some (.cells #[.slice none 0 0, .slice none 0 0, .int .i64 lo, .int .i64 hi] 24) := by rw [hH2]; exact upd_same (c := [.slice none 0 0, .slice none 0 0, .int .i64 lo, .int .i64 hi]) (by simp)
  have u2 : Upd ((h.push (.cells #[.slice none 0 0, .slice none 0 0, .int .i64 0, .int .i64 0] 24)).push (.cells #[.slice none 0 0, .slice none 0 0, .int .i64 0, .int .i64 0] 24)) H2 (h.size + 1) := by rw [hH2]; exact Upd.updH
  have g0 := u2.get (pn0 (h := h)) (by omega)
  have x2 : Ext h H2 := u2.ext (((Ext.refl h).push _).push _) (by omega)
  rw [← hH2]
  clear hH2 u2
  refine ⟨fun _ => ⟨fun _ => ?_, fun hh => absurd (by decide) hh⟩, fun hh => absurd (by decide) hh⟩
  refine WP_draw (by kernel_rfl) sta_eq [(0, 0), (1, 0), (2, 0), (3, 3), (4, 3), (5, 3), (6, 0), (7, 1), (8, 0), (9, 1)] (by kernel_rfl) rfl (by kernel_rfl) ?_
  simp only [g2, hvK_eq, splice, coreS, Value.cells, Value.oneCell', Nat.reduceAdd, Nat.reduceSub, Nat.reduceMul, Nat.reduceLeDiff, Int.reduceEq, Nat.reduceEqDiff, drawS, H30Fs79]
  simp only [ite_self, show ((8 : Int) - ((0 : Nat) : Int)).toNat = 8 from rfl, show (((16 : Nat) : Int) - ((0 : Nat) : Int)).toNat = 16 from rfl, show (((16 : Nat) : Int) - (8 : Int)).toNat = 8 from rfl, show ¬ (((16 : Nat) : Int) = (8 : Int)) by decide, if_false]
  refine ⟨by decide, by decide, by decide, by decide, by decide, by decide, by decide, by decide, ?_⟩
  refine stK_abs g2 (by simp) fun h3 g3 u3 => ?_
  simp only [splice] at g3
  simp only [g3, splice, coreS, Value.cells, Value.oneCell', Nat.reduceAdd, Nat.reduceSub, Nat.reduceMul, Nat.reduceLeDiff, Int.reduceEq, Nat.reduceEqDiff, drawS, H30Fs79]
  refine stK_abs g3 (by simp) fun h4 g4 u4 => ?_
  simp only [splice] at g4
  have g04 := u4.get (u3.get g0 (by omega)) (by omega)
  simp only [g4, g04, hvK_eq, splice, coreS, Value.cells, Value.oneCell', Nat.reduceAdd, Nat.reduceSub, Nat.reduceMul, Nat.reduceLeDiff, Int.reduceEq, Nat.reduceEqDiff, drawS, H30Fs79]
  refine stK_abs g04 (by simp) fun h5 g5 u5 => ?_
  simp only [splice] at g5
  simp only [g5, splice, coreS, Value.cells, Value.oneCell', Nat.reduceAdd, Nat.reduceSub, Nat.reduceMul, Nat.reduceLeDiff, Int.reduceEq, Nat.reduceEqDiff, H30Fs79]
  exact ⟨rfl, u5.ext (u4.ext (u3.ext x2 (by omega)) (by omega)) (by omega)⟩
def goodM (g : Nat) : MV := ⟨[2, 3, 4, 5, 6, 7, 7, 7], [0, 0, 1, 1, 2, 3, 4, 4], 2, 5, some ⟨g, 0, none⟩, some ⟨g, 8, none⟩, 16, 8⟩
def stuckM (g : Nat) : MV := ⟨[2, 3, 4, 5, 6, 7, 7, 7], [0, 0, 1, 1, 2, 3, 6, 6], 4, 5, some ⟨g, 0, none⟩, some ⟨g, 8, none⟩, 16, 8⟩
theorem pair_ok {h : Eng.Heap} {g : Nat} {xs ys : List Int} (hx : xs.length = 8) (hy : ys.length = 8) (hb : h[g]? = some (.cells (Eng.ints (xs ++ ys)).toArray 3)) : IntsV h (some ⟨g, 0, none⟩) 8 xs ∧ IntsV h (some ⟨g, 8, none⟩) 8 ys := by
  refine ⟨⟨by omega, .inr ⟨g, 0, _, _, _, rfl, hb, ?_, ?_⟩⟩, ⟨by omega, .inr ⟨g, 8, _, _, _, rfl, hb, ?_, ?_⟩⟩⟩
  · simp [Eng.ints, hx, hy]
  · rw [List.toList_toArray, List.drop_zero, show Eng.ints (xs ++ ys) = Eng.ints xs ++ Eng.ints ys from List.map_append, List.take_left' rfl]
  · simp [Eng.ints, hx, hy]
  · rw [List.toList_toArray, show Eng.ints (xs ++ ys) = Eng.ints xs ++ Eng.ints ys from List.map_append, List.drop_left' (by rw [Eng.ints_length]; exact hx), List.take_of_length_le (Nat.le_refl _)]
theorem good52 (h : Eng.Heap) : CallsH Tryd.prog 52 #[] h (fun r h' => (∃ g, r = (goodM g).val ∧ (goodM g).ok h') ∧ Ext h h') := by
  (refine CallsH_of_exec Tryd.func52 rfl bod52 ?_; simp only [Tryd.ntmps52, Tryd.results52, coreS, stK_some, splice, Value.cells, Value.oneCell', Nat.reduceAdd, Nat.reduceSub, Nat.reduceMul, Nat.reduceLeDiff, Int.reduceEq, Nat.reduceEqDiff, H30Fs52])
  have x0 : Ext h ((h.push (.cells #[.slice none 0 0, .slice none 0 0, .int .i64 0, .int .i64 0] 24)).push (.cells #[.int .i64 2, .int .i64 3, .int .i64 4, .int .i64 5, .int .i64 6, .int .i64 7, .int .i64 7, .int .i64 7, .int .i64 0, .int .i64 0, .int .i64 1, .int .i64 1, .int .i64 2, .int .i64 3, .int .i64 4, .int .i64 4] 3)) := ((Ext.refl h).push _).push _
  refine CallsH.mono (mould79 2 5 (h.size + 1) _) ?_
  rintro v h1 ⟨rfl, x1⟩
  have y1 := x0.trans x1
  have b0 := x1.get (pn0 (h := h))
  have b1 := x1.get (pn1 (h := h))
  simp only [b0, splice, coreS, Value.cells, Value.oneCell', Nat.reduceAdd, Nat.reduceSub, Nat.reduceMul, Nat.reduceLeDiff, Int.reduceEq, Nat.reduceEqDiff, H30Fs52]
  refine stK_abs b0 (by simp) fun h5 g5 u5 => ?_
  simp only [splice] at g5
  have k1 := u5.get b1 (by omega)
  simp only [g5, splice, coreS, Value.cells, Value.oneCell', Nat.reduceAdd, Nat.reduceSub, Nat.reduceMul, Nat.reduceLeDiff, Int.reduceEq, Nat.reduceEqDiff, H30Fs52]
  have hp := pair_ok (h := h5) (g := h.size + 1) (xs := (goodM (h.size + 1)).casts) (ys := (goodM (h.size + 1)).waits) rfl rfl k1
  exact ⟨⟨h.size + 1, rfl, hp.1, hp.2, show 8 ≤ 24 by decide, show 8 ≤ 24 by decide⟩, u5.ext y1 (Nat.le_refl _)⟩
theorem stuck53 (h : Eng.Heap) : CallsH Tryd.prog 53 #[] h (fun r h' => (∃ g, r = (stuckM g).val ∧ (stuckM g).ok h') ∧ Ext h h') := by
  (refine CallsH_of_exec Tryd.func53 rfl bod53 ?_; simp only [Tryd.ntmps53, Tryd.results53, coreS, stK_some, splice, Value.cells, Value.oneCell', Nat.reduceAdd, Nat.reduceSub, Nat.reduceMul, Nat.reduceLeDiff, Int.reduceEq, Nat.reduceEqDiff, H30Fs53])
  have x0 : Ext h ((h.push (.cells #[.slice none 0 0, .slice none 0 0, .int .i64 0, .int .i64 0] 24)).push (.cells #[.int .i64 2, .int .i64 3, .int .i64 4, .int .i64 5, .int .i64 6, .int .i64 7, .int .i64 7, .int .i64 7, .int .i64 0, .int .i64 0, .int .i64 1, .int .i64 1, .int .i64 2, .int .i64 3, .int .i64 6, .int .i64 6] 3)) := ((Ext.refl h).push _).push _
  refine CallsH.mono (mould79 4 5 (h.size + 1) _) ?_
  rintro v h1 ⟨rfl, x1⟩
  have y1 := x0.trans x1
  have b0 := x1.get (pn0 (h := h))
  have b1 := x1.get (pn1 (h := h))
  simp only [b0, splice, coreS, Value.cells, Value.oneCell', Nat.reduceAdd, Nat.reduceSub, Nat.reduceMul, Nat.reduceLeDiff, Int.reduceEq, Nat.reduceEqDiff, H30Fs53]
  refine stK_abs b0 (by simp) fun h5 g5 u5 => ?_
  simp only [splice] at g5
  have k1 := u5.get b1 (by omega)
  simp only [g5, splice, coreS, Value.cells, Value.oneCell', Nat.reduceAdd, Nat.reduceSub, Nat.reduceMul, Nat.reduceLeDiff, Int.reduceEq, Nat.reduceEqDiff, H30Fs53]
  have hp := pair_ok (h := h5) (g := h.size + 1) (xs := (stuckM (h.size + 1)).casts) (ys := (stuckM (h.size + 1)).waits) rfl rfl k1
  exact ⟨⟨h.size + 1, rfl, hp.1, hp.2, show 8 ≤ 24 by decide, show 8 ≤ 24 by decide⟩, u5.ext y1 (Nat.le_refl _)⟩
end Go.Proofs.YtafemfjhflfdeaaDoor
end
section
namespace Go.Proofs.YtafemfjhflfdeaaDoor
open Go Go.Proofs Go.Eng Go.Run Tab
set_option maxRecDepth 100000
set_option linter.unusedSimpArgs false
set_option linter.unusedVariables false
set_option linter.defProp false
set_option maxHeartbeats 4000000
theorem good_ov (g : Nat) : (goodM g).ov = OV.good := rfl
theorem stuck_ov (g : Nat) : (stuckM g).ov = OV.stuck := rfl
theorem good_chk (g : Nat) : chk (goodM g) = 0 := by
  have : chk (goodM 0) = 0 := by decide +kernel
  exact this
theorem stuck_chk (g : Nat) : chk (stuckM g) = 0 := by
  have : chk (stuckM 0) = 0 := by decide +kernel
  exact this
theorem good_ok : OV.good.ok := (good_of (good_chk 0)).ok
theorem stuck_ok : OV.stuck.ok := (good_of (stuck_chk 0)).ok
theorem v1 (g : Nat) : runE (goodM g) 3 ⟨#[99, 99, 119]⟩ = 0 ∧ runA (goodM g) 3 ⟨#[99, 99, 119]⟩ = 4 ∧ runK (goodM g) 3 ⟨#[99, 99, 119]⟩ = 2 := by
  have : runE (goodM 0) 3 ⟨#[99, 99, 119]⟩ = 0 ∧ runA (goodM 0) 3 ⟨#[99, 99, 119]⟩ = 4 ∧ runK (goodM 0) 3 ⟨#[99, 99, 119]⟩ = 2 := by decide +kernel
  exact this
theorem v2 (g : Nat) : runE (goodM g) 3 ⟨#[99, 99, 99]⟩ = 22 := by
  have : runE (goodM 0) 3 ⟨#[99, 99, 99]⟩ = 22 := by decide +kernel
  exact this
theorem v3 (g : Nat) : runE (goodM g) 3 ⟨#[99, 120]⟩ = 8 := by
  have : runE (goodM 0) 3 ⟨#[99, 120]⟩ = 8 := by decide +kernel
  exact this
theorem v4 (g : Nat) : runE (goodM g) 8 ⟨#[99]⟩ = 2 := by
  have : runE (goodM 0) 8 ⟨#[99]⟩ = 2 := by decide +kernel
  exact this
theorem v5 (g : Nat) : ceW (goodM g) 3 4 = 2 ∧ ceE (goodM g) 3 4 = 0 := by
  have : ceW (goodM 0) 3 4 = 2 ∧ ceE (goodM 0) 3 4 = 0 := by decide +kernel
  exact this
theorem v6 (g : Nat) : ceE (goodM g) 1 1 = 22 := by
  have : ceE (goodM 0) 1 1 = 22 := by decide +kernel
  exact this
theorem v7 (g : Nat) : ceP (goodM g) 3 4 = ⟨#[99, 99, 119, 99, 119, 99]⟩ := by
  have : ceP (goodM 0) 3 4 = ⟨#[99, 99, 119, 99, 119, 99]⟩ := by decide +kernel
  exact this
def ivO : Option Nat → Int
  | some k => k
  | none => -1
theorem moV_iv (m : MV) (i : Nat) : moV m i = ivO (m.ov.most i) := by
  rw [moV]; cases m.ov.most i <;> rfl
theorem mo_good (g : Nat) {i : Nat} (hi : i < 8) : moV (goodM g) i = ivO (OV.mostT (fun j => ((OV.goodT.getD j []).getD i none).isSome) 9 0) := by
  rw [moV_iv, good_ov, OV.good_most good_ok hi]
theorem mo_stuck (g : Nat) {i : Nat} (hi : i < 8) : moV (stuckM g) i = ivO (OV.mostT (fun j => ((OV.stuckT.getD j []).getD i none).isSome) 9 0) := by
  rw [moV_iv, stuck_ov, OV.stuck_most stuck_ok hi]
theorem moL_good (g : Nat) : moL (goodM g) 8 = [0, 0, -1, -1, -1, -1, -1, -1] := by
  have : moL (goodM g) 8 = (List.range 8).map fun i => ivO (OV.mostT (fun j => ((OV.goodT.getD j []).getD i none).isSome) 9 0) := by
    rw [moL]
    exact List.map_congr_left fun i hi => mo_good g (List.mem_range.1 hi)
  rw [this]
  decide +kernel
theorem moL_stuck (g : Nat) : moL (stuckM g) 8 = [0, 0, 0, 0, 1, 1, 0, 0] := by
  have : moL (stuckM g) 8 = (List.range 8).map fun i => ivO (OV.mostT (fun j => ((OV.stuckT.getD j []).getD i none).isSome) 9 0) := by
    rw [moL]
    exact List.map_congr_left fun i hi => mo_stuck g (List.mem_range.1 hi)
  rw [this]
  decide +kernel
theorem opn_one (g : Nat) {x : Int} (h : inB 0 (7 : Int) [x] = true) : opn (goodM g) [x] = 0 := by
  rw [opn, good_chk, if_neg (by decide)]
  exact if_pos h
theorem opn_one' (g : Nat) {x : Int} (h : inB 0 (7 : Int) [x] = true) : opn (stuckM g) [x] = 0 := by
  rw [opn, stuck_chk, if_neg (by decide)]
  exact if_pos h
theorem v8 (g : Nat) : moE (goodM g) 3 = 4 := by
  rw [moE, opn_one g (by decide), if_neg (by decide), show (3 : Int).toNat = 3 from rfl, mo_good g (by omega)]
  decide +kernel
theorem v9 (g : Nat) : moE (stuckM g) 4 = 0 ∧ moW (stuckM g) 4 = 1 := by
  have h : moE (stuckM g) 4 = 0 := by
    rw [moE, opn_one' g (by decide), if_neg (by decide), show (4 : Int).toNat = 4 from rfl, mo_stuck g (by omega)]
    decide +kernel
  refine ⟨h, ?_⟩
  rw [moW, h, if_pos rfl, show (4 : Int).toNat = 4 from rfl, mo_stuck g (by omega)]
  decide +kernel
theorem v12 (g : Nat) : cklE (stuckM g) [0, 0, 0, 0, 1, 1, 0, 0] = 0 := by
  have : cklE (stuckM 0) [0, 0, 0, 0, 1, 1, 0, 0] = 0 := by decide +kernel
  exact this
theorem v13 (g : Nat) : cklE (stuckM g) [0, 0, 0, 0, 2, 1, 1, 0] = 14 := by
  have : cklE (stuckM 0) [0, 0, 0, 0, 2, 1, 1, 0] = 14 := by decide +kernel
  exact this
theorem v14 (g : Nat) : ckrE (goodM g) 3 ⟨#[99, 99, 119]⟩ ⟨#[99, 119]⟩ = 0 ∧ ckrV (goodM g) 3 ⟨#[99, 99, 119]⟩ ⟨#[99, 119]⟩ = (1, 1) := by
  have : ckrE (goodM 0) 3 ⟨#[99, 99, 119]⟩ ⟨#[99, 119]⟩ = 0 ∧ ckrV (goodM 0) 3 ⟨#[99, 99, 119]⟩ ⟨#[99, 119]⟩ = (1, 1) := by decide +kernel
  exact this
theorem v15 (g : Nat) : ckrE (goodM g) 3 ⟨#[99]⟩ ⟨#[99, 119]⟩ = 14 := by
  have : ckrE (goodM 0) 3 ⟨#[99]⟩ ⟨#[99, 119]⟩ = 14 := by decide +kernel
  exact this
theorem v16 (g : Nat) : roE (goodM g) 3 = 0 := by
  rw [roE, opn_one g (by decide), if_neg (by decide), show (3 : Int).toNat = 3 from rfl, mo_good g (by omega)]
  decide +kernel
theorem v17 (g : Nat) : roE (stuckM g) 4 = 22 := by
  rw [roE, opn_one' g (by decide), if_neg (by decide), show (4 : Int).toNat = 4 from rfl, mo_stuck g (by omega)]
  decide +kernel
theorem v18 (g : Nat) : rtV (goodM g) 3 = (1, 1) := by
  rw [rtV, v16, if_pos rfl, good_ov]
  exact OV.good_rate
theorem v19 (g : Nat) : raE (goodM g) 2 3 ⟨#[99, 99]⟩ = 0 ∧ raV (goodM g) 2 3 ⟨#[99, 99]⟩ = (6, 7) := by
  have : raE (goodM 0) 2 3 ⟨#[99, 99]⟩ = 0 ∧ raV (goodM 0) 2 3 ⟨#[99, 99]⟩ = (6, 7) := by decide +kernel
  exact this
theorem v20 (g : Nat) : raE (goodM g) 3 4 ⟨#[99, 99]⟩ = 22 := by
  have : raE (goodM 0) 3 4 ⟨#[99, 99]⟩ = 22 := by decide +kernel
  exact this
theorem v21 (g : Nat) : suE (goodM g) 2 3 2 = 0 ∧ suP (goodM g) 2 3 2 = ⟨#[99, 99]⟩ := by
  have : suE (goodM 0) 2 3 2 = 0 ∧ suP (goodM 0) 2 3 2 = ⟨#[99, 99]⟩ := by decide +kernel
  exact this
theorem v22 (g : Nat) : suE (goodM g) 1 3 1 = 22 := by
  have : suE (goodM 0) 1 3 1 = 22 := by decide +kernel
  exact this
theorem v23 (g : Nat) : suE (goodM g) 7 8 1 = 3 := by
  have : suE (goodM 0) 7 8 1 = 3 := by decide +kernel
  exact this
theorem form_planS {p : List Bool} (h : p.length ≤ 500) : formE (planS p) = 0 := by
  rw [formE, planS_size, if_neg (by omega), lets_planS]; rfl
theorem ckr_of {m : MV} {x : Int} {p q : List Bool} {u : Nat} (ho : opn m [x] = 0) (h1 : m.ov.run (x.toNat, x.toNat) p = some (u, u)) (h2 : m.ov.run (u, u) q = some (u, u)) (hc : 1 ≤ OV.casts q) (hu : u < m.casts.length) (hl1 : p.length ≤ 500) (hl2 : q.length ≤ 500) : ckrE m x (planS p) (planS q) = 0 ∧ ckrV m x (planS p) (planS q) = OV.byP (q.length - OV.casts q) (OV.casts q) := by
  have e1 : runE m x (planS p) = 0 := by
    rw [runE, if_neg (by simpa using ho), if_neg (by simpa using form_planS hl1), bits_planS, h1]; rfl
  have a1 : runA m x (planS p) = (u : Int) := by rw [runA, if_pos e1, bits_planS, h1]; rfl
  have hk : chk m = 0 := by
    unfold opn at ho
    split at ho
    · rename_i h; exact absurd ho h
    · rename_i h; exact Classical.not_not.1 h
  have o2 : opn m [(u : Int)] = 0 := by
    rw [opn, if_neg (by simpa using hk), if_pos]
    rw [inB_one, decide_eq_true_eq]; omega
  have e2 : runE m (u : Int) (planS q) = 0 := by
    rw [runE, if_neg (by simpa using o2), if_neg (by simpa using form_planS hl2), bits_planS, Int.toNat_natCast, h2]; rfl
  have a2 : runA m (u : Int) (planS q) = (u : Int) := by rw [runA, if_pos e2, bits_planS, Int.toNat_natCast, h2]; rfl
  have k2 : runK m (u : Int) (planS q) = (OV.casts q : Int) := by rw [runK, if_pos e2, bits_planS]
  have ec : ckrE m x (planS p) (planS q) = 0 := by
    rw [ckrE, e1, a1, e2, a2, k2, if_neg (by decide), if_neg (by decide), if_neg (by omega)]
  refine ⟨ec, ?_⟩
  rw [ckrV, if_pos ec, a1, k2, planS_size, Int.toNat_natCast]
end Go.Proofs.YtafemfjhflfdeaaDoor
end
section
namespace Go.Proofs.YtafemfjhflfdeaaDoor
set_option linter.unusedSimpArgs false
set_option linter.unusedVariables false
set_option linter.defProp false
namespace OV
variable {o : OV}
def wk (o : OV) : Nat → List Bool → List Bool
  | _, [] => []
  | t, b :: bs => if (b && o.can (t, t)) = true then true :: wk o (o.c t) bs else false :: wk o (o.w t) bs
theorem wk_run (ok : o.ok) : ∀ (bs : List Bool) (t : Nat), t < o.n → ∃ u, u < o.n ∧ o.run (t, t) (o.wk t bs) = some (u, u) ∧ (o.wk t bs).length = bs.length
  | [], t, ht => ⟨t, ht, rfl, rfl⟩
  | b :: bs, t, ht => by
    rw [wk]
    split
    · rename_i h
      obtain ⟨u, h1, h2, h3⟩ := wk_run ok bs (o.c t) (ok.cl t ht)
      have hc : o.can (t, t) = true := by simp at h; exact h.2
      exact ⟨u, h1, by rw [run_cons, step, if_pos rfl, if_pos hc]; exact h2, by simp [h3]⟩
    · obtain ⟨u, h1, h2, h3⟩ := wk_run ok bs (o.w t) (by have := ok.wg t ht; omega)
      exact ⟨u, h1, h2, by simp [h3]⟩
def RightL (o : OV) (L : Nat → Int) : Prop := ∀ i, i < o.n → 0 ≤ L i → (0 ≤ L (o.w i) ∧ L (o.w i) ≤ L i) ∧ (o.can (i, i) = true → 0 ≤ L (o.c i) ∧ L (o.c i) < L i)
theorem lab_run (ok : o.ok) {L : Nat → Int} (hL : o.RightL L) : ∀ (p : List Bool) (t : Nat) (u : Sp), t < o.n → 0 ≤ L t → o.run (t, t) p = some u → (casts p : Int) ≤ L t
  | [], t, u, ht, h0, hr => by simpa [casts] using h0
  | false :: p, t, u, ht, h0, hr => by
    have h1 := (hL t ht h0).1
    have := lab_run ok hL p (o.w t) u (by have := ok.wg t ht; omega) h1.1 hr
    have e : casts (false :: p) = casts p := casts_cons _ _
    rw [e]; omega
  | true :: p, t, u, ht, h0, hr => by
    rw [run_cons, step, if_pos rfl] at hr
    split at hr
    · rename_i hc
      have h1 := (hL t ht h0).2 hc
      have := lab_run ok hL p (o.c t) u (ok.cl t ht) h1.1 hr
      have e : casts (true :: p) = casts p + 1 := casts_cons _ _
      rw [e]; omega
    · cases hr
theorem lab_lw (ok : o.ok) {L : Nat → Int} (hL : o.RightL L) {k t x : Nat} (ht : t < o.n) (h0 : 0 ≤ L t) (h : o.lw k (t, t) = some x) : (k : Int) ≤ L t := by
  obtain ⟨⟨u, hu⟩, h1, _⟩ := pl_run ok (s := (t, t)) ⟨ht, ht⟩ h
  have := lab_run ok hL _ t u ht h0 hu
  rwa [h1] at this
def mo (o : OV) (i : Nat) : Int := match o.most i with | some k => k | none => -1
theorem mo_some {i k : Nat} (h : o.most i = some k) : o.mo i = k := by rw [mo, h]
theorem mo_none {i : Nat} (h : o.most i = none) : o.mo i = -1 := by rw [mo, h]
theorem most_le (ok : o.ok) {i k : Nat} (hi : i < o.n) (h : o.lw (k + 1) (i, i) = none) : ∃ m, o.most i = some m ∧ m ≤ k := by
  cases hm : o.most i with
  | none =>
    obtain ⟨x, hx⟩ := most_none ok hi hm (k + 1)
    rw [hx] at h; cases h
  | some m =>
    refine ⟨m, rfl, Nat.le_of_not_lt fun hlt => ?_⟩
    have := (most_some hm).2.2 (k + 1) (by omega)
    rw [h] at this
    cases this
theorem most_iff (ok : o.ok) {i m : Nat} (hi : i < o.n) (h : o.most i = some m) (k : Nat) : (o.lw k (i, i)).isSome = true ↔ k ≤ m := by
  obtain ⟨h1, h2, h3⟩ := most_some h
  refine ⟨fun hk => Nat.le_of_not_lt fun hlt => ?_, h3 k⟩
  obtain ⟨x, hx⟩ := Option.isSome_iff_exists.1 hk
  obtain ⟨y, hy, _⟩ := lw_mono ok (s := (i, i)) ⟨hi, hi⟩ hx (j := m + 1) (by omega)
  rw [h2] at hy
  cases hy
theorem mo_right (ok : o.ok) : o.RightL o.mo := by
  intro i hi h0
  cases hm : o.most i with
  | none => rw [mo_none hm] at h0; omega
  | some m =>
    have h2 := (most_some hm).2.1
    rw [lw_succ ok ⟨hi, hi⟩] at h2
    rw [mo_some hm]
    have hwn : o.w i < o.n := by have := ok.wg i hi; omega
    constructor
    · by_cases hw : o.W (i, i) = (i, i)
      · have : o.w i = i := congrArg Prod.fst hw
        rw [this, mo_some hm]; omega
      · rw [if_neg hw] at h2
        have h3 : o.lw (m + 1) (o.w i, o.w i) = none := by
          cases hx : o.lw (m + 1) (o.w i, o.w i) with
          | none => rfl
          | some x =>
            rw [show o.W (i, i) = (o.w i, o.w i) from rfl, hx] at h2
            cases hb : (if o.can (i, i) = true then o.lw m (o.C (i, i)) else none) <;> rw [hb] at h2 <;> simp [better] at h2
        obtain ⟨k, hk, hkm⟩ := most_le ok hwn h3
        rw [mo_some hk]; omega
    · intro hc
      rw [if_pos hc] at h2
      have hcn := ok.cl i hi
      have h3 : o.lw m (o.c i, o.c i) = none := by
        cases hx : o.lw m (o.c i, o.c i) with
        | none => rfl
        | some x =>
          rw [show o.C (i, i) = (o.c i, o.c i) from rfl, hx] at h2
          cases hb : (if o.W (i, i) = (i, i) then none else (o.lw (m + 1) (o.W (i, i))).map (· + 1)) <;> rw [hb] at h2 <;> simp [better] at h2
      cases m with
      | zero => rw [lw_zero] at h3; cases h3
      | succ m =>
        obtain ⟨k, hk, hkm⟩ := most_le ok hcn h3
        rw [mo_some hk]; omega
def Ach (o : OV) (j k : Nat) (v : List Nat) : Prop := ∀ u, u < o.n → v.getD u 0 < far → ∃ p, o.run (j, j) p = some (u, u) ∧ casts p = k ∧ p.length = k + v.getD u 0
theorem Ach.rel (ok : o.ok) {j k : Nat} {v : List Nat} (hv : v.length = o.n) (H : o.Ach j k v) {i : Nat} (hi : i < o.n) : o.Ach j k (o.rel v i) := fun u hu hf => by
  rw [rel_at ok hv hi] at hf ⊢
  by_cases he : u = o.w i
  · rw [if_pos he] at hf ⊢
    by_cases hm : v.getD (o.w i) 0 ≤ v.getD i 0 + 1
    · rw [Nat.min_eq_left hm] at hf ⊢
      rw [← he] at hf ⊢
      exact H u hu hf
    · rw [Nat.min_eq_right (by omega)] at hf ⊢
      obtain ⟨p, h1, h2, h3⟩ := H i hi (by omega)
      refine ⟨p ++ [false], ?_, ?_, ?_⟩
      · rw [he]; exact run_join h1 rfl
      · rw [casts_append, h2]; rfl
      · rw [List.length_append, h3]; simp; omega
  · rw [if_neg he] at hf ⊢
    exact H u hu hf
theorem Ach.fold (ok : o.ok) {j k : Nat} : ∀ (l : List Nat) (v : List Nat), v.length = o.n → (∀ i ∈ l, i < o.n) → o.Ach j k v → o.Ach j k (l.foldl o.rel v)
  | [], v, hv, hl, H => H
  | i :: l, v, hv, hl, H => by
    rw [List.foldl_cons]
    exact Ach.fold ok l _ (by rw [rel_length, hv]) (fun x hx => hl x (List.mem_cons_of_mem _ hx)) (H.rel ok hv (hl i List.mem_cons_self))
theorem Ach.cool (ok : o.ok) {j k : Nat} {v : List Nat} (hv : v.length = o.n) (H : o.Ach j k v) : o.Ach j k (o.cool v) :=
  Ach.fold ok _ v hv (fun i hi => List.mem_range.1 (List.mem_reverse.1 hi)) H
theorem getD_far {n u : Nat} (hu : u < n) : (List.replicate n far).getD u 0 = far := by
  rw [List.getD_eq_getElem?_getD, List.getElem?_replicate, if_pos hu]; rfl
theorem Ach.cstK (ok : o.ok) {j k : Nat} {v : List Nat} (H : o.Ach j k v) : ∀ m, m ≤ o.n → o.Ach j (k + 1) (o.cstK v m)
  | 0, hm, u, hu, hf => by
    rw [show o.cstK v 0 = List.replicate o.n far from rfl, getD_far hu] at hf
    omega
  | m + 1, hm, u, hu, hf => by
    have ih := Ach.cstK ok H m (by omega)
    rw [cstK_succ] at hf ⊢
    unfold cs1 at hf ⊢
    split at hf
    · rename_i hc
      rw [if_pos hc]
      rw [getD_set' (by rw [cstK_length]; exact ok.cl m (by omega))] at hf ⊢
      by_cases he : u = o.c m
      · rw [if_pos he] at hf ⊢
        by_cases hle : (o.cstK v m).getD (o.c m) 0 ≤ v.getD m 0
        · rw [Nat.min_eq_left hle] at hf ⊢
          rw [← he] at hf ⊢
          exact ih u hu hf
        · rw [Nat.min_eq_right (by omega)] at hf ⊢
          obtain ⟨p, h1, h2, h3⟩ := H m (by omega) hf
          refine ⟨p ++ [true], ?_, ?_, ?_⟩
          · rw [he]
            refine run_join h1 ?_
            rw [run_cons, step, if_pos rfl, if_pos hc]; rfl
          · rw [casts_append, h2]; rfl
          · rw [List.length_append, h3]; simp; omega
      · rw [if_neg he] at hf ⊢
        exact ih u hu hf
    · rename_i hc
      rw [if_neg hc]
      exact ih u hu hf
theorem bk_ach (ok : o.ok) {j : Nat} (hj : j < o.n) : ∀ k, o.Ach j k (o.bk j k)
  | 0 => by
    rw [bk]
    refine Ach.cool ok (by simp [st]) fun u hu hf => ?_
    rw [st, getD_set' (by simpa using hj)] at hf ⊢
    by_cases he : u = j
    · rw [if_pos he]
      exact ⟨[], by rw [he]; rfl, rfl, rfl⟩
    · rw [if_neg he, getD_far hu] at hf
      omega
  | k + 1 => by
    rw [bk]
    exact Ach.cool ok (cstK_length _ _) (Ach.cstK ok (bk_ach ok hj k) o.n (Nat.le_refl _))
theorem rch_ach (ok : o.ok) {i h : Nat} (hi : i < o.n) (hr : (o.rch i).getD h false = true) : ∃ p, o.run (i, i) p = some (h, h) := by
  refine (rch_is ok hi).least (fun j => ∃ p, o.run (i, i) p = some (j, j)) ?_ ⟨[], rfl⟩ h hr
  rintro j hj ⟨p, hp⟩
  refine ⟨⟨p ++ [false], run_join hp rfl⟩, fun hc => ⟨p ++ [true], run_join hp ?_⟩⟩
  rw [run_cons, step, if_pos rfl, if_pos hc]; rfl
def leQ (a b : Nat × Nat) : Prop := a.1 * b.2 ≤ b.1 * a.2
theorem leQ_refl (a : Nat × Nat) : leQ a a := Nat.le_refl _
theorem leQ_trans {a b c : Nat × Nat} (hb : 1 ≤ b.2) (h1 : leQ a b) (h2 : leQ b c) : leQ a c := by
  unfold leQ at *
  refine Nat.le_of_mul_le_mul_right ?_ hb
  have e1 : a.1 * c.2 * b.2 = a.1 * b.2 * c.2 := by rw [Nat.mul_assoc, Nat.mul_comm c.2, ← Nat.mul_assoc]
  have e2 : c.1 * a.2 * b.2 = c.1 * b.2 * a.2 := by rw [Nat.mul_assoc, Nat.mul_comm a.2, ← Nat.mul_assoc]
  rw [e1, e2]
  have h3 : a.1 * b.2 * c.2 ≤ b.1 * a.2 * c.2 := Nat.mul_le_mul_right _ h1
  have h4 : b.1 * c.2 * a.2 ≤ c.1 * b.2 * a.2 := Nat.mul_le_mul_right _ h2
  have e3 : b.1 * a.2 * c.2 = b.1 * c.2 * a.2 := by rw [Nat.mul_assoc, Nat.mul_comm a.2, ← Nat.mul_assoc]
  omega
theorem bestQ_is : ∀ (l : List (Nat × Nat)) (x : Nat × Nat), 1 ≤ x.2 → (∀ y ∈ l, 1 ≤ y.2) → (bestQ x l = x ∨ bestQ x l ∈ l) ∧ leQ (bestQ x l) x ∧ ∀ y ∈ l, leQ (bestQ x l) y
  | [], x, hx, hl => ⟨.inl rfl, leQ_refl _, fun y hy => by cases hy⟩
  | y :: l, x, hx, hl => by
    have hy := hl y List.mem_cons_self
    have hl' : ∀ z ∈ l, 1 ≤ z.2 := fun z hz => hl z (List.mem_cons_of_mem _ hz)
    have e : bestQ x (y :: l) = bestQ (if lessQ y x then y else x) l := rfl
    rw [e]
    by_cases hq : lessQ y x = true
    · rw [if_pos hq]
      obtain ⟨h1, h2, h3⟩ := bestQ_is l y hy hl'
      have hyx : leQ y x := by simp [lessQ] at hq; exact Nat.le_of_lt hq
      refine ⟨.inr ?_, leQ_trans hy h2 hyx, fun z hz => ?_⟩
      · rcases h1 with h1 | h1
        · rw [h1]; exact List.mem_cons_self
        · exact List.mem_cons_of_mem _ h1
      · rcases List.mem_cons.1 hz with rfl | hz
        · exact h2
        · exact h3 z hz
    · rw [if_neg hq]
      obtain ⟨h1, h2, h3⟩ := bestQ_is l x hx hl'
      have hxy : leQ x y := by simp [lessQ] at hq; exact hq
      refine ⟨?_, h2, fun z hz => ?_⟩
      · rcases h1 with h1 | h1
        · exact .inl h1
        · exact .inr (List.mem_cons_of_mem _ h1)
      · rcases List.mem_cons.1 hz with rfl | hz
        · exact leQ_trans hx h2 hxy
        · exact h3 z hz
theorem byP_eq {a b : Nat} (hb : 1 ≤ b) : ∃ g, 1 ≤ g ∧ a = g * (byP a b).1 ∧ b = g * (byP a b).2 ∧ 1 ≤ (byP a b).2 := by
  have hg : 0 < Nat.gcd a b := Nat.gcd_pos_of_pos_right a (by omega)
  refine ⟨Nat.gcd a b, hg, (Nat.mul_div_cancel' (Nat.gcd_dvd_left a b)).symm, (Nat.mul_div_cancel' (Nat.gcd_dvd_right a b)).symm, ?_⟩
  exact Nat.div_pos (Nat.le_of_dvd (by omega) (Nat.gcd_dvd_right a b)) hg
theorem byP_again {a b : Nat} (hb : 1 ≤ b) : byP (byP a b).1 (byP a b).2 = byP a b := by
  have hg : 0 < Nat.gcd a b := Nat.gcd_pos_of_pos_right a (by omega)
  have h1 : Nat.gcd (byP a b).1 (byP a b).2 = 1 := Nat.gcd_div_gcd_div_gcd_of_pos_right (by omega)
  generalize byP a b = y at h1 ⊢
  rw [byP, h1, Nat.div_one, Nat.div_one]
theorem byP_le {a b : Nat} : (byP a b).1 ≤ a ∧ (byP a b).2 ≤ b := ⟨Nat.div_le_self _ _, Nat.div_le_self _ _⟩
theorem leQ_byP {x : Nat × Nat} {a b : Nat} (hb : 1 ≤ b) (h : leQ x (byP a b)) : x.1 * b ≤ a * x.2 := by
  obtain ⟨g, hg, h1, h2, _⟩ := byP_eq (a := a) hb
  generalize byP a b = y at h h1 h2
  rw [h1, h2]
  have e1 : x.1 * (g * y.2) = g * (x.1 * y.2) := by rw [← Nat.mul_assoc, Nat.mul_comm x.1 g, Nat.mul_assoc]
  have e2 : g * y.1 * x.2 = g * (y.1 * x.2) := Nat.mul_assoc _ _ _
  rw [e1, e2]
  exact Nat.mul_le_mul_left g h
theorem byP_leQ {x : Nat × Nat} {a b : Nat} (hb : 1 ≤ b) (h : x.1 * b ≤ a * x.2) : leQ x (byP a b) := by
  obtain ⟨g, hg, h1, h2, _⟩ := byP_eq (a := a) hb
  generalize byP a b = y at h1 h2
  rw [h1, h2] at h
  have e1 : x.1 * (g * y.2) = g * (x.1 * y.2) := by rw [← Nat.mul_assoc, Nat.mul_comm x.1 g, Nat.mul_assoc]
  have e2 : g * y.1 * x.2 = g * (y.1 * x.2) := Nat.mul_assoc _ _ _
  rw [e1, e2] at h
  exact Nat.le_of_mul_le_mul_left h hg
theorem rtL_mem {i h k : Nat} {x : Nat × Nat} : x ∈ o.rtL i o.n ↔ ∃ h, h < o.n ∧ ∃ k, 1 ≤ k ∧ k ≤ o.n ∧ o.isBk i h k = true ∧ x = byP ((o.bk h k).getD h 0) k := by
  rw [rtL, List.mem_flatMap]
  constructor
  · rintro ⟨h, hh, hx⟩
    rw [rtH, List.mem_flatMap] at hx
    obtain ⟨k, hk, hx⟩ := hx
    rw [rtX] at hx
    split at hx
    · rename_i hb
      exact ⟨h, List.mem_range.1 hh, k + 1, by omega, by have := List.mem_range.1 hk; omega, hb, List.mem_singleton.1 hx⟩
    · cases hx
  · rintro ⟨h, hh, k, hk1, hk2, hb, hx⟩
    refine ⟨h, List.mem_range.2 hh, ?_⟩
    rw [rtH, List.mem_flatMap]
    refine ⟨k - 1, List.mem_range.2 (by omega), ?_⟩
    rw [show k - 1 + 1 = k by omega, rtX, if_pos hb]
    exact List.mem_singleton.2 hx
theorem rate_is (ok : o.ok) {i : Nat} (hi : i < o.n) (hlw : (o.lw o.n (i, i)).isSome) : o.rate i ∈ o.rtL i o.n ∧ ∀ y ∈ o.rtL i o.n, leQ (o.rate i) y := by
  have hne := rtL_some ok hi hlw
  have hden : ∀ y ∈ o.rtL i o.n, 1 ≤ y.2 := fun y hy => by
    obtain ⟨h, _, k, hk, _, _, rfl⟩ := (rtL_mem (h := 0) (k := 0)).1 hy
    obtain ⟨_, _, _, _, h4⟩ := byP_eq (a := (o.bk h k).getD h 0) hk
    exact h4
  unfold rate
  cases hl : o.rtL i o.n with
  | nil => exact absurd hl hne
  | cons x l =>
    rw [hl] at hden
    obtain ⟨h1, h2, h3⟩ := bestQ_is l x (hden x List.mem_cons_self) fun y hy => hden y (List.mem_cons_of_mem _ hy)
    refine ⟨?_, fun y hy => ?_⟩
    · show bestQ x l ∈ x :: l
      rcases h1 with h1 | h1
      · rw [h1]; exact List.mem_cons_self
      · exact List.mem_cons_of_mem _ h1
    · show leQ (bestQ x l) y
      rcases List.mem_cons.1 hy with rfl | hy
      · exact h2
      · exact h3 y hy
theorem rate_ach (ok : o.ok) {i : Nat} (hi : i < o.n) (hlw : (o.lw o.n (i, i)).isSome) : ∃ h p q, o.run (i, i) p = some (h, h) ∧ o.run (h, h) q = some (h, h) ∧ 1 ≤ casts q ∧ casts q ≤ 16 ∧ q.length ≤ casts q + 272 ∧ h < o.n ∧ o.rate i = byP (q.length - casts q) (casts q) := by
  obtain ⟨h, hh, k, hk1, hk2, hb, hx⟩ := (rtL_mem (h := 0) (k := 0)).1 (rate_is ok hi hlw).1
  simp [isBk] at hb
  obtain ⟨p, hp⟩ := rch_ach ok hi (by simpa using hb.2)
  obtain ⟨q, h1, h2, h3⟩ := bk_ach ok hh k h hh (by simpa using hb.1)
  have h16 := ok.n16
  have hbd := bk_bd ok hh k (by omega) h hh
  have hle : (k + 1) * o.n ≤ 17 * 16 := Nat.mul_le_mul (by omega) h16
  have hf := hb.1
  rw [← List.getD_eq_getElem?_getD] at hf
  rw [far_eq] at hbd hf
  refine ⟨h, p, q, hp, h1, by omega, by omega, by omega, hh, ?_⟩
  rw [hx, h2, h3, Nat.add_sub_cancel_left]
theorem rate_small (ok : o.ok) {i : Nat} (hi : i < o.n) (hlw : (o.lw o.n (i, i)).isSome) : 1 ≤ (o.rate i).2 ∧ (o.rate i).2 ≤ 500 ∧ (o.rate i).1 ≤ 500 ∧ byP (o.rate i).1 (o.rate i).2 = o.rate i := by
  obtain ⟨h, p, q, hp, hq, h1, h2, h3, hh, hx⟩ := rate_ach ok hi hlw
  rw [hx]
  have hle := byP_le (a := q.length - casts q) (b := casts q)
  obtain ⟨_, _, _, _, h4⟩ := byP_eq (a := q.length - casts q) h1
  exact ⟨h4, by omega, by omega, byP_again h1⟩
theorem rate_short (ok : o.ok) {i h : Nat} {a q : List Bool} (hi : i < o.n) (hlw : (o.lw o.n (i, i)).isSome) (ha : o.run (i, i) a = some (h, h)) (hq : o.run (h, h) q = some (h, h)) (h1 : 1 ≤ casts q) (h2 : casts q ≤ o.n) (h3 : q.length < far) : (o.rate i).1 * casts q ≤ (q.length - casts q) * (o.rate i).2 := by
  have hh : h < o.n := (in_run ok (s := (i, i)) ⟨hi, hi⟩ ha).1
  have hre := run_rch ok hi a i h hi (rch_is ok hi).at0 ha
  have hbk := bk_least ok hh hq
  have hmem : byP ((o.bk h (casts q)).getD h 0) (casts q) ∈ o.rtL i o.n := (rtL_mem (h := 0) (k := 0)).2 ⟨h, hh, casts q, h1, h2, by rw [isBk, hre, decide_eq_true (by omega)]; rfl, rfl⟩
  have := leQ_byP h1 ((rate_is ok hi hlw).2 _ hmem)
  exact Nat.le_trans this (Nat.mul_le_mul_right _ (by omega))
theorem cut_out {i u : Nat} {t : Sp} {a b c : List Bool} (h1 : o.run (i, i) a = some (u, u)) (h2 : o.run (u, u) b = some (u, u)) (h : o.run (i, i) (a ++ b ++ c) = some t) : o.run (i, i) (a ++ c) = some t := by
  rw [run_append, run_append, h1, Option.bind_some, h2, Option.bind_some] at h
  exact run_join h1 h
theorem mul3' {a b c d x y e : Nat} (h1 : x * a ≤ b * y) (h2 : x * c ≤ d * y + e) : x * (a + c) ≤ (b + d) * y + e := by rw [Nat.mul_add, Nat.add_mul]; omega
theorem rate_plan (ok : o.ok) {i : Nat} (hi : i < o.n) (hlw : (o.lw o.n (i, i)).isSome) : ∀ (m : Nat) (p : List Bool) (t : Sp), casts p ≤ m → o.run (i, i) p = some t → p.length < far → (o.rate i).1 * casts p ≤ (p.length - casts p) * (o.rate i).2 + (o.rate i).1 * o.n := by
  intro m
  induction m with
  | zero => intro p t hm hr hl; rw [Nat.le_zero.1 hm]; omega
  | succ m ih =>
    intro p t hm hr hl
    by_cases hn : casts p < o.n
    · exact Nat.le_trans (Nat.mul_le_mul_left _ (Nat.le_of_lt hn)) (Nat.le_add_left _ _)
    · obtain ⟨a, b, c, rfl, hb1, hb2, u, hu, hv⟩ := twice ok hi hr (by omega)
      have hc := cut_out hu hv hr
      simp only [casts_append, List.length_append] at hm hl ⊢
      have h1 := rate_short ok hi hlw hu hv hb1 hb2 (by omega)
      have h2 := ih (a ++ c) t (by rw [casts_append]; omega) hc (by rw [List.length_append]; omega)
      rw [casts_append, List.length_append] at h2
      have h3 := mul3' h1 h2
      have ca := casts_le a
      have cb := casts_le b
      have cc := casts_le c
      rw [show casts a + casts b + casts c = casts b + (casts a + casts c) by omega, show a.length + b.length + c.length - (casts b + (casts a + casts c)) = b.length - casts b + (a.length + c.length - (casts a + casts c)) by omega]
      exact h3
theorem rate_round (ok : o.ok) {i : Nat} (hi : i < o.n) (hlw : (o.lw o.n (i, i)).isSome) : ∀ (m : Nat) (q : List Bool) (h : Nat) (a : List Bool), casts q ≤ m → o.run (i, i) a = some (h, h) → o.run (h, h) q = some (h, h) → 1 ≤ casts q → q.length < far → (o.rate i).1 * casts q ≤ (q.length - casts q) * (o.rate i).2 := by
  intro m
  induction m with
  | zero => intro q h a hm ha hq h1 hl; omega
  | succ m ih =>
    intro q h a hm ha hq h1 hl
    have hh : h < o.n := (in_run ok (s := (i, i)) ⟨hi, hi⟩ ha).1
    by_cases hn : casts q ≤ o.n
    · exact rate_short ok hi hlw ha hq h1 hn hl
    · obtain ⟨x, b, c, rfl, hb1, hb2, u, hu, hv⟩ := twice ok hh hq (by omega)
      have hc := cut_out hu hv hq
      simp only [casts_append, List.length_append] at hm hl hn ⊢
      have h2 := rate_short ok hi hlw (run_join ha hu) hv hb1 hb2 (by omega)
      have h3 := ih (x ++ c) h a (by rw [casts_append]; omega) ha hc (by rw [casts_append]; omega) (by rw [List.length_append]; omega)
      rw [casts_append, List.length_append] at h3
      have h4 := mul3' (e := 0) h2 (by simpa using h3)
      have ca := casts_le x
      have cb := casts_le b
      have cc := casts_le c
      rw [show casts x + casts b + casts c = casts b + (casts x + casts c) by omega, show x.length + b.length + c.length - (casts b + (casts x + casts c)) = b.length - casts b + (x.length + c.length - (casts x + casts c)) by omega]
      exact h4
theorem round_any (ok : o.ok) {i h : Nat} {a q : List Bool} (hi : i < o.n) (ha : o.run (i, i) a = some (h, h)) (hq : o.run (h, h) q = some (h, h)) (h1 : 1 ≤ casts q) (k : Nat) : ∃ x, o.lw k (i, i) = some x := by
  have hr := run_join ha (rep_run hq k)
  obtain ⟨x, hx, _⟩ := lw_least ok _ (s := (i, i)) ⟨hi, hi⟩ hr
  have hk : k ≤ casts (a ++ rep q k) := by
    rw [casts_append, rep_casts]
    have : k * 1 ≤ k * casts q := Nat.mul_le_mul_left k h1
    omega
  obtain ⟨y, hy, _⟩ := lw_mono ok (s := (i, i)) ⟨hi, hi⟩ hx hk
  exact ⟨y, hy⟩
def wider (o : OV) (a b : Nat) : OV := ⟨o.n, o.c, o.w, o.lo - a, min (o.n - 1) (o.hi + b)⟩
theorem wider_ok (ok : o.ok) (a b : Nat) : (o.wider a b).ok := by
  have h1 := ok.lh
  have h2 := ok.hl
  have h3 := ok.n1
  exact ⟨ok.n1, ok.n16, ok.cg, ok.cl, ok.wg, ok.cm, ok.wm, by show o.lo - a ≤ min (o.n - 1) (o.hi + b); omega, by show min (o.n - 1) (o.hi + b) < o.n; omega⟩
theorem wider_can (ok : o.ok) {a b : Nat} {s : Sp} (h : o.can s = true) : (o.wider a b).can s = true := by
  have := ok.hl
  simp only [can, Bool.and_eq_true, decide_eq_true_eq] at h ⊢
  show o.lo - a ≤ s.1 ∧ s.2 ≤ min (o.n - 1) (o.hi + b)
  omega
theorem wider_run (ok : o.ok) {a b : Nat} : ∀ (p : List Bool) (s t : Sp), o.run s p = some t → (o.wider a b).run s p = some t
  | [], s, t, h => h
  | false :: p, s, t, h => wider_run ok p (o.W s) t h
  | true :: p, s, t, h => by
    rw [run_cons, step, if_pos rfl] at h
    split at h
    · rename_i hc
      rw [run_cons, step, if_pos rfl, if_pos (wider_can ok hc)]
      exact wider_run ok p (o.C s) t h
    · cases h
theorem wider_lw (ok : o.ok) {a b k : Nat} {s : Sp} {x : Nat} (h : o.In s) (hx : o.lw k s = some x) : ∃ y, (o.wider a b).lw k s = some y ∧ y ≤ x := by
  obtain ⟨⟨t, ht⟩, h1, h2⟩ := pl_run ok h hx
  obtain ⟨y, hy, hl⟩ := lw_least (wider_ok ok a b) _ (s := s) h (wider_run ok _ _ _ ht)
  rw [h1] at hy hl
  exact ⟨y, hy, by omega⟩
theorem wider_rate (ok : o.ok) {a b i : Nat} (hi : i < o.n) (hlw : (o.lw o.n (i, i)).isSome) : leQ ((o.wider a b).rate i) (o.rate i) := by
  obtain ⟨h, p, q, hp, hq, h1, h2, h3, hh, hx⟩ := rate_ach ok hi hlw
  have hw := wider_ok ok a b
  have hlw' : ((o.wider a b).lw (o.wider a b).n (i, i)).isSome := by
    obtain ⟨x, hx⟩ := Option.isSome_iff_exists.1 hlw
    obtain ⟨y, hy, _⟩ := wider_lw (a := a) (b := b) ok (s := (i, i)) ⟨hi, hi⟩ hx
    rw [show (o.wider a b).n = o.n from rfl, hy]; rfl
  rw [hx]
  exact byP_leQ h1 (rate_round hw hi hlw' (casts q) q h p (Nat.le_refl _) (wider_run ok _ _ _ hp) (wider_run ok _ _ _ hq) h1 (by rw [far_eq]; omega))
theorem lw_narrow (ok : o.ok) {k a i b x : Nat} (h1 : a ≤ i) (h2 : i ≤ b) (hb : b < o.n) (hx : o.lw k (a, b) = some x) : ∃ y, o.lw k (i, b) = some y ∧ y ≤ x := by
  obtain ⟨⟨t, ht⟩, h3, h4⟩ := pl_run ok (s := (a, b)) ⟨by show a < o.n; omega, hb⟩ hx
  obtain ⟨u, hu, _, _⟩ := run_between ok _ a i b t h1 h2 hb ht
  obtain ⟨v, hv, _, _⟩ := run_between ok _ a b b t (by omega) (Nat.le_refl _) hb ht
  have hr : o.run (i, b) (o.pl k (a, b)) = some (u, v) := by rw [run_span ok _ i b h2 hb, hu, hv]; rfl
  obtain ⟨y, hy, hl⟩ := lw_least ok _ (s := (i, b)) ⟨by show i < o.n; omega, hb⟩ hr
  rw [h3] at hy hl
  exact ⟨y, hy, by omega⟩
theorem span_bound (ok : o.ok) {k : Nat} {s : Sp} {x : Nat} (hs : o.In s) (hle : s.1 ≤ s.2) (hx : o.lw k s = some x) : x ≤ k * (o.n - 1) ∧ (1 ≤ k → x ≤ (k - 1) * (o.n - 1) + s.2) := by
  revert hle
  refine pl_rec ok (P := fun k s x => s.1 ≤ s.2 → x ≤ k * (o.n - 1) ∧ (1 ≤ k → x ≤ (k - 1) * (o.n - 1) + s.2)) ?_ ?_ ?_ k s x hs hx
  · intro s hs hle; exact ⟨Nat.zero_le _, fun h => by omega⟩
  · intro k s x hs hc hf h1 h2 ih hle
    have := (ih (ok.cm _ _ hle hs.2)).1
    rw [Nat.add_sub_cancel, Nat.succ_mul]
    exact ⟨by omega, fun _ => by omega⟩
  · intro k s x hs hw hf h1 h2 ih hle
    have := (ih (ok.wm _ _ hle hs.2)).2 (by omega)
    have hwl := W_le ok hs
    have hlt : (o.W s).2 < s.2 := by
      refine Nat.lt_of_le_of_ne hwl.2 fun he => ?_
      have h3 : o.lw (k + 1) ((o.W s).1, s.2) = some x := by
        rw [← h2]; congr 1; exact Prod.ext rfl he.symm
      obtain ⟨y, hy, hyx⟩ := lw_narrow ok (i := s.1) hwl.1 hle hs.2 h3
      rw [show (s.1, s.2) = s from rfl, h1] at hy
      cases hy
      omega
    have hn := hs.2
    rw [Nat.add_sub_cancel] at this ⊢
    rw [Nat.succ_mul]
    exact ⟨by omega, fun _ => by omega⟩
end OV
end Go.Proofs.YtafemfjhflfdeaaDoor
end
section
namespace Go.Proofs.YtafemfjhflfdeaaDoor
open Go Go.Proofs Go.Eng Go.Run Tab
set_option maxRecDepth 100000
set_option linter.unusedSimpArgs false
set_option linter.unusedVariables false
set_option linter.defProp false
theorem opn_v {m : MV} (hc : chk m = 0) {i : Nat} (hi : i < m.casts.length) : opn m [(i : Int)] = 0 := by
  rw [opn, if_neg (by simpa using hc), if_pos]
  rw [inB_one, decide_eq_true_eq]; omega
theorem run_s {m : MV} (hc : chk m = 0) {i : Nat} (hi : i < m.casts.length) {p : List Bool} (hl : p.length ≤ 500) {u : Nat} (h : m.ov.run (i, i) p = some (u, u)) : runE m i (planS p) = 0 ∧ runA m i (planS p) = u ∧ runK m i (planS p) = OV.casts p := by
  have e1 : runE m i (planS p) = 0 := by
    rw [runE, if_neg (by simpa using opn_v hc hi), if_neg (by simpa using form_planS hl), bits_planS, Int.toNat_natCast, h]; rfl
  refine ⟨e1, ?_, ?_⟩
  · rw [runA, if_pos e1, bits_planS, Int.toNat_natCast, h]; rfl
  · rw [runK, if_pos e1, bits_planS]
theorem run_n {m : MV} (hc : chk m = 0) {i : Nat} (hi : i < m.casts.length) {p : List Bool} (hl : p.length ≤ 500) (h : m.ov.run (i, i) p = none) : runE m i (planS p) = 22 ∧ runA m i (planS p) = 0 ∧ runK m i (planS p) = 0 := by
  have e1 : runE m i (planS p) = 22 := by
    rw [runE, if_neg (by simpa using opn_v hc hi), if_neg (by simpa using form_planS hl), bits_planS, Int.toNat_natCast, h]; rfl
  exact ⟨e1, by rw [runA, if_neg (by rw [e1]; decide)], by rw [runK, if_neg (by rw [e1]; decide)]⟩
theorem ce_s {m : MV} (hc : chk m = 0) {i : Nat} (hi : i < m.casts.length) {k : Nat} (hk : k ≤ 30) {x : Nat} (h : m.ov.lw k (i, i) = some x) : ceE m i k = 0 ∧ ceW m i k = x ∧ ceP m i k = planS (m.ov.pl k (i, i)) := by
  have e : ceE m i k = 0 := by
    rw [ceE, if_neg (by simpa using opn_v hc hi), fromE, if_neg (by omega), Int.toNat_natCast, Int.toNat_natCast, h]; rfl
  refine ⟨e, ?_, ?_⟩
  · rw [ceW, if_pos e, Int.toNat_natCast, Int.toNat_natCast, h]; rfl
  · rw [ceP, if_pos e, Int.toNat_natCast, Int.toNat_natCast]
theorem ce_n {m : MV} (hc : chk m = 0) {i : Nat} (hi : i < m.casts.length) {k : Nat} (hk : k ≤ 30) (h : m.ov.lw k (i, i) = none) : ceE m i k = 22 ∧ ceW m i k = 0 ∧ ceP m i k = ⟨#[]⟩ := by
  have e : ceE m i k = 22 := by
    rw [ceE, if_neg (by simpa using opn_v hc hi), fromE, if_neg (by omega), Int.toNat_natCast, Int.toNat_natCast, h]; rfl
  exact ⟨e, by rw [ceW, if_neg (by rw [e]; decide)], by rw [ceP, if_neg (by rw [e]; decide)]⟩
theorem mo_s {m : MV} (hc : chk m = 0) {i : Nat} (hi : i < m.casts.length) {k : Nat} (h : m.ov.most i = some k) : moE m i = 0 ∧ moW m i = k ∧ roE m i = 22 ∧ rtV m i = (0, 0) := by
  have hv : moV m i = k := by rw [moV, h]
  have e : moE m i = 0 := by rw [moE, if_neg (by simpa using opn_v hc hi), Int.toNat_natCast, hv, if_neg (by omega)]
  have r : roE m i = 22 := by rw [roE, if_neg (by simpa using opn_v hc hi), Int.toNat_natCast, hv, if_pos (by omega)]
  exact ⟨e, by rw [moW, if_pos e, Int.toNat_natCast, hv], r, by rw [rtV, if_neg (by rw [r]; decide)]⟩
theorem mo_n {m : MV} (hc : chk m = 0) {i : Nat} (hi : i < m.casts.length) (h : m.ov.most i = none) : moE m i = 4 ∧ moW m i = 0 ∧ roE m i = 0 ∧ rtV m i = m.ov.rate i := by
  have hv : moV m i = -1 := by rw [moV, h]
  have e : moE m i = 4 := by rw [moE, if_neg (by simpa using opn_v hc hi), Int.toNat_natCast, hv, if_pos (by omega)]
  have r : roE m i = 0 := by rw [roE, if_neg (by simpa using opn_v hc hi), Int.toNat_natCast, hv, if_neg (by omega)]
  exact ⟨e, by rw [moW, if_neg (by rw [e]; decide)], r, by rw [rtV, if_pos r, Int.toNat_natCast]⟩
theorem rg_v {m : MV} (hc : chk m = 0) {a b : Nat} (hab : a ≤ b) (hb : b < m.casts.length) : rgE m a b = 0 := by rw [rgE, if_neg (by simpa using hc), if_neg (by omega)]
theorem ra_s {m : MV} (hc : chk m = 0) {a b : Nat} (hab : a ≤ b) (hb : b < m.casts.length) {p : List Bool} (hl : p.length ≤ 500) {t : OV.Sp} (h : m.ov.run (a, b) p = some t) : raE m a b (planS p) = 0 ∧ raV m a b (planS p) = t := by
  have e : raE m a b (planS p) = 0 := by
    rw [raE, if_neg (by simpa using rg_v hc hab hb), if_neg (by simpa using form_planS hl), bits_planS, Int.toNat_natCast, Int.toNat_natCast, h]; rfl
  exact ⟨e, by rw [raV, if_pos e, bits_planS, Int.toNat_natCast, Int.toNat_natCast, h]; rfl⟩
theorem ra_n {m : MV} (hc : chk m = 0) {a b : Nat} (hab : a ≤ b) (hb : b < m.casts.length) {p : List Bool} (hl : p.length ≤ 500) (h : m.ov.run (a, b) p = none) : raE m a b (planS p) = 22 ∧ raV m a b (planS p) = (0, 0) := by
  have e : raE m a b (planS p) = 22 := by
    rw [raE, if_neg (by simpa using rg_v hc hab hb), if_neg (by simpa using form_planS hl), bits_planS, Int.toNat_natCast, Int.toNat_natCast, h]; rfl
  exact ⟨e, by rw [raV, if_neg (by rw [e]; decide)]⟩
theorem su_s {m : MV} (hc : chk m = 0) {a b : Nat} (hab : a ≤ b) (hb : b < m.casts.length) {k : Nat} (hk : k ≤ 30) {x : Nat} (h : m.ov.lw k (a, b) = some x) : suE m a b k = 0 ∧ suP m a b k = planS (m.ov.pl k (a, b)) := by
  have e : suE m a b k = 0 := by
    rw [suE, if_neg (by simpa using rg_v hc hab hb), fromE, if_neg (by omega), Int.toNat_natCast, Int.toNat_natCast, Int.toNat_natCast, h]; rfl
  exact ⟨e, by rw [suP, if_pos e, Int.toNat_natCast, Int.toNat_natCast, Int.toNat_natCast]⟩
theorem su_n {m : MV} (hc : chk m = 0) {a b : Nat} (hab : a ≤ b) (hb : b < m.casts.length) {k : Nat} (hk : k ≤ 30) (h : m.ov.lw k (a, b) = none) : suE m a b k = 22 ∧ suP m a b k = ⟨#[]⟩ := by
  have e : suE m a b k = 22 := by
    rw [suE, if_neg (by simpa using rg_v hc hab hb), fromE, if_neg (by omega), Int.toNat_natCast, Int.toNat_natCast, Int.toNat_natCast, h]; rfl
  exact ⟨e, by rw [suP, if_neg (by rw [e]; decide)]⟩
theorem ckl_right {m : MV} {L : List Int} (h : cklE m L = 0) : chk m = 0 ∧ L.length = m.casts.length ∧ m.ov.RightL (fun i => L.getD i 0) := by
  unfold cklE at h
  split at h
  · rename_i h1; exact absurd h h1
  rename_i h1
  split at h
  · cases h
  rename_i h2
  split at h
  · cases h
  split at h
  · cases h
  rename_i h4
  refine ⟨Classical.not_not.1 h1, Classical.not_not.1 h2, fun i hi (h0 : 0 ≤ L.getD i 0) => ?_⟩
  have h5 : ¬ badL m L i := fun hb => h4 ⟨i, hi, hb⟩
  unfold badL at h5
  have h6 : ¬ ((L.getD (m.ov.w i) 0 < 0 ∨ L.getD i 0 < L.getD (m.ov.w i) 0) ∨ (m.ov.can (i, i) = true ∧ (L.getD (m.ov.c i) 0 < 0 ∨ L.getD i 0 ≤ L.getD (m.ov.c i) 0))) := fun hx => h5 ⟨h0, hx⟩
  rw [not_or] at h6
  refine ⟨show 0 ≤ L.getD (m.ov.w i) 0 ∧ L.getD (m.ov.w i) 0 ≤ L.getD i 0 by omega, fun hcan => ?_⟩
  have h7 : ¬ (L.getD (m.ov.c i) 0 < 0 ∨ L.getD i 0 ≤ L.getD (m.ov.c i) 0) := fun hx => h6.2 ⟨hcan, hx⟩
  show 0 ≤ L.getD (m.ov.c i) 0 ∧ L.getD (m.ov.c i) 0 < L.getD i 0
  omega
theorem moL_at {m : MV} {i : Nat} (hi : i < m.casts.length) : (moL m m.casts.length).getD i 0 = m.ov.mo i := by
  simp [moL, List.getD, hi]; rfl
theorem mo_bd {m : MV} (hc : chk m = 0) {i : Nat} (hi : i < m.casts.length) : -1 ≤ m.ov.mo i ∧ m.ov.mo i ≤ 16 := by
  have h16 : m.casts.length ≤ 16 := (chk_pos hc).1.2
  cases h : m.ov.most i with
  | none => rw [OV.mo_none h]; omega
  | some k =>
    have : k ≤ m.casts.length := (OV.most_some h).1
    rw [OV.mo_some h]; omega
theorem ckl_mo {m : MV} (hc : chk m = 0) : cklE m (moL m m.casts.length) = 0 := by
  have hlen : (moL m m.casts.length).length = m.casts.length := by simp [moL]
  have hin : inB (-1) 30 (moL m m.casts.length) = true := inB_all fun i hi => by
    rw [hlen] at hi
    rw [moL_at hi]
    have := mo_bd hc hi
    omega
  have hg := (good_of hc).ok
  rw [cklE, if_neg (by simpa using hc), if_neg (by simpa using hlen), if_neg (by rw [hin]; decide), if_neg]
  rintro ⟨i, hi, h0, hb⟩
  have hr := OV.mo_right hg i hi
  rw [moL_at hi] at h0 hb
  have hw : m.ov.w i < m.casts.length := by have := hg.wg i hi; omega
  have hcl : m.ov.c i < m.casts.length := hg.cl i hi
  rw [moL_at hw, moL_at hcl] at hb
  have h1 := hr h0
  rcases hb with hb | ⟨h2, hb⟩
  · omega
  · have := h1.2 h2
    omega
theorem ckr_pos {m : MV} (hc : chk m = 0) {i : Nat} (hi : i < m.casts.length) {p q : List Bool} (hl1 : p.length ≤ 500) (hl2 : q.length ≤ 500) (h : ckrE m i (planS p) (planS q) = 0) : ∃ u : Nat, u < m.casts.length ∧ m.ov.run (i, i) p = some (u, u) ∧ m.ov.run (u, u) q = some (u, u) ∧ 1 ≤ OV.casts q ∧ ckrV m i (planS p) (planS q) = OV.byP (q.length - OV.casts q) (OV.casts q) := by
  have hok := (good_of hc).ok
  cases h1 : m.ov.run (i, i) p with
  | none =>
    have := (run_n hc hi hl1 h1).1
    rw [ckrE, if_pos (by rw [this]; decide), this] at h
    cases h
  | some t =>
    have ht := OV.run_same hok h1
    obtain ⟨u, t2⟩ := t
    obtain rfl : t2 = u := congrArg Prod.snd ht
    have hu : t2 < m.casts.length := (OV.in_run hok (s := (i, i)) ⟨hi, hi⟩ h1).1
    obtain ⟨e1, a1, _⟩ := run_s hc hi hl1 h1
    cases h2 : m.ov.run (t2, t2) q with
    | none =>
      have := (run_n hc hu hl2 h2).1
      rw [ckrE, e1, if_neg (by decide), a1, if_pos (by rw [this]; decide), this] at h
      cases h
    | some s =>
      have hs := OV.run_same hok h2
      obtain ⟨w, s2⟩ := s
      obtain rfl : s2 = w := congrArg Prod.snd hs
      obtain ⟨e2, a2, k2⟩ := run_s hc hu hl2 h2
      have hh := h
      rw [ckrE, e1, if_neg (by decide), a1, e2, if_neg (by decide), a2, k2] at hh
      split at hh
      · cases hh
      · rename_i h5
        obtain rfl : s2 = t2 := by omega
        exact ⟨s2, hu, rfl, h2, by omega, (ckr_of (opn_v hc hi) (by rw [Int.toNat_natCast]; exact h1) h2 (by omega) hu hl1 hl2).2⟩
end Go.Proofs.YtafemfjhflfdeaaDoor
end
section
set_option linter.unusedVariables false
set_option linter.unusedSimpArgs false
namespace Go.Eng
open Go
theorem WP_cut {l : Option Nat} {P : Program} {c : Code} {n : Env → List Deferred → Heap → Prop} {k : Cont} {e : Env} {d : List Deferred} {h : Heap} (ws : List Nat) (I : (Nat → Value) → Heap → Prop)
    (H : WP l P c (thenK (midK e d ws I) k) e d h) (Hn : ∀ g h', I g h' → n (mkE e ws g) d h') : WP l P c (thenK n k) e d h :=
  WP_mono (thenK_mono (fun e' d' h' hmid => by
    unfold midK at hmid
    obtain ⟨h1, h2, h3⟩ := hmid
    subst h1
    rw [h2]
    exact Hn _ _ h3) (fun _ _ _ _ h => h)) H
def eqO : Value → Value → Option Bool
  | .int k a, .int k' b => if k = k' then some (decide (a = b)) else none
  | _, _ => none
def pureO (e : Env) : Op → Option Value
  | .move x => some (ev e x)
  | .assign x => some (ev e x)
  | .pick c a b => match ev e c with
    | .bool true => some (ev e a)
    | .bool false => some (ev e b)
    | _ => none
  | .binOp .eql _ x y _ => (eqO (ev e x) (ev e y)).map .bool
  | .binOp .neq _ x y _ => (eqO (ev e x) (ev e y)).map fun b => .bool (!b)
  | _ => none
def evalP (all : List Oper) : List Oper → Env → Option Env
  | [], e => some e
  | o :: rest, e => match o.guard with
    | none => (pureO e o.op).bind fun v => evalP all rest (putE e o.dst v)
    | some (j, want) => match gslot all j with
      | none => none
      | some t => match e.getD t undef with
        | .bool b => if b = want then (pureO e o.op).bind fun v => evalP all rest (putE e o.dst v) else evalP all rest (putE e o.dst undef)
        | _ => none
theorem eqO_some {v w : Value} {b : Bool} (h : eqO v w = some b) : ∃ k x y, v = .int k x ∧ w = .int k y ∧ b = decide (x = y) := by
  unfold eqO at h
  split at h
  · split at h
    · rename_i hk
      subst hk
      exact ⟨_, _, _, rfl, rfl, (Option.some.inj h).symm⟩
    · cases h
  · cases h
section pureR
variable {P : Program} {k : Cont} {d : List Deferred} {h : Heap}
theorem pureO_sound {e : Env} {o : Op} {v : Value} {ty : TypeId} {K : Value → Heap → Prop} (H : pureO e o = some v) (hK : K v h) : opW P o ty e h K := by
  unfold pureO at H
  unfold opW
  split at H
  · cases H; exact hK
  · cases H; exact hK
  · split at H
    · rename_i hc; cases H; simp only [hc]; exact hK
    · rename_i hc; cases H; simp only [hc]; exact hK
    · cases H
  · rename_i ty2 x y yt
    obtain ⟨b, hb, rfl⟩ := Option.map_eq_some_iff.1 H
    obtain ⟨kd, a, c, h1, h2, rfl⟩ := eqO_some hb
    simp only [h1, h2]
    unfold binW intW
    exact ⟨rfl, hK⟩
  · rename_i ty2 x y yt
    obtain ⟨b, hb, rfl⟩ := Option.map_eq_some_iff.1 H
    obtain ⟨kd, a, c, h1, h2, rfl⟩ := eqO_some hb
    simp only [h1, h2]
    unfold binW intW
    exact ⟨rfl, hK⟩
  · cases H
theorem execR_pure {all : List Oper} {e' : Env} : ∀ (ops : List Oper) (e : Env), evalP all ops e = some e' → k .normal e' d h → execR P all ops k e d h
  | [], e, H, hk => by
    unfold execR
    cases H
    exact hk
  | o :: rest, e, H, hk => by
    unfold execR guardW
    unfold evalP at H
    have plain : ((pureO e o.op).bind fun v => evalP all rest (putE e o.dst v)) = some e' → opW P o.op o.type e h (fun v h' => execR P all rest k (putE e o.dst v) d h') := fun H => by
      obtain ⟨v, h1, h2⟩ := Option.bind_eq_some_iff.1 H
      exact pureO_sound h1 (execR_pure rest _ h2 hk)
    split at H
    · rename_i hg
      simp only [hg]
      exact plain H
    · rename_i j want hg
      simp only [hg]
      split at H
      · cases H
      · rename_i t hs
        simp only [hs]
        split at H
        · rename_i b hb
          have ht : t < e.length := by
            rcases Nat.lt_or_ge t e.length with h | h
            · exact h
            · simp [List.getD, List.getElem?_eq_none h, undef] at hb
          have hset := set_bool_same hb ht
          rw [hb]
          unfold boolW
          have key : ∀ c, b = c → (if c = want then opW P o.op o.type (e.set t (.bool c)) h (fun v h' => execR P all rest k (putE (e.set t (.bool c)) o.dst v) d h') else execR P all rest k (putE (e.set t (.bool c)) o.dst undef) d h) := by
            rintro c rfl
            rw [hset]
            by_cases hw : b = want
            · rw [if_pos hw] at H ⊢; exact plain H
            · rw [if_neg hw] at H ⊢; exact execR_pure rest _ H hk
          exact ⟨fun hb => key true hb, fun hb => key false hb⟩
        · cases H
theorem execR_quiet {all : List Oper} {e : Env} (ws : List Nat) (hs : (evalP all all e).isSome = true) (hw : mkE e ws (fun i => ((evalP all all e).getD []).getD i undef) = (evalP all all e).getD [])
    (H : ∀ g : Nat → Value, (g = fun i => ((evalP all all e).getD []).getD i undef) → k .normal (mkE e ws g) d h) : execR P all all k e d h := by
  obtain ⟨e', he⟩ := Option.isSome_iff_exists.1 hs
  refine execR_pure all e he ?_
  have := H _ rfl
  rw [hw, he] at this
  exact this
end pureR
end Go.Eng
end
