/- Texts joined by pack.py: lemmas for YtafemfjhflfdeaaDoorMoulds. No condition. -/
import Derived.Test.YtafemfjhflfdeaaDoorPA7
set_option linter.unusedSimpArgs false
set_option linter.unusedVariables false
set_option linter.defProp false
section
namespace Go.Proofs.YtafemfjhflfdeaaDoor
open Go Go.Proofs Go.Eng Go.Run Tab
set_option maxRecDepth 100000
set_option linter.unusedSimpArgs false
set_option linter.unusedVariables false
set_option linter.defProp false
set_option maxHeartbeats 4000000
set_option linter.defProp false
def H21Fs35 := (And.intro (And.intro (And.intro @agg24 @agg45) (And.intro @inf24 @inf45)) (And.intro (And.intro @okf45 @sz24) (And.intro @sz45 (And.intro @zero45 @Tryd.underlying9))))
def H21Fs36 := (And.intro (And.intro (And.intro @agg24 @agg45) (And.intro @inf24 @inf45)) (And.intro (And.intro @okf45 @sz24) (And.intro @sz45 @zero45)))
def ckrE (m : MV) (x : Int) (p q : ByteArray) : Int := if runE m x p ≠ 0 then runE m x p else if runE m (runA m x p) q ≠ 0 then runE m (runA m x p) q else if runA m (runA m x p) q ≠ runA m x p ∨ runK m (runA m x p) q = 0 then 14 else 0
def ckrV (m : MV) (x : Int) (p q : ByteArray) : Nat × Nat := if ckrE m x p q = 0 then OV.byP (q.size - (runK m (runA m x p) q).toNat) (runK m (runA m x p) q).toNat else (0, 0)
theorem run_bounds {m : MV} {x : Int} {s : ByteArray} (h : runE m x s = 0) : (s.size ≤ 500 ∧ lets s = true) ∧ ∃ k : Nat, runK m x s = k ∧ k ≤ s.size ∧ k = OV.casts (bits s) := by
  have h0 := h
  unfold runE at h
  split at h
  · rename_i h1; exact absurd h h1
  split at h
  · rename_i h1; exact absurd h h1
  rename_i h1 h2
  have := form_ok (Classical.not_not.1 h2)
  refine ⟨this, OV.casts (bits s), ?_, by rw [← bits_length]; exact OV.casts_le _, rfl⟩
  rw [runK, if_pos h0]
theorem count73 (s : ByteArray) (h : Eng.Heap) (hl : lets s = true) (hs : s.size ≤ 1000000) :
    CallsH Tryd.prog 73 #[.string s, .int .u8 119] h (fun v h' => v = .int .i64 ((s.size - OV.casts (bits s) : Nat) : Int) ∧ h' = h) := by
  (refine CallsH_of_exec Tryd.func73 rfl bod73 ?_; simp only [Tryd.ntmps73, Tryd.results73, coreS, stK_some, splice, Value.cells, Value.oneCell', Nat.reduceAdd, Nat.reduceSub, Nat.reduceMul, Nat.reduceLeDiff, Int.reduceEq, Nat.reduceEqDiff, Tryd.underlying9])
  refine WP_loopI [5, 6, 7, 8, 9, 10, 11, 12, 13, 14, 15, 16, 17, 18, 19] (fun g h' => h' = h ∧ ∃ i : Nat, i ≤ s.size ∧ g 6 = .int .i64 i ∧ g 5 = .int .i64 ((i - OV.casts ((bits s).take i) : Nat) : Int)) (fun g _ => match g 6 with | .int _ q => s.size - q.toNat | _ => 0) ⟨rfl, 0, by omega, rfl, rfl⟩ ?_
  rintro g h' ⟨rfl, i, hin, hg, h5⟩
  by_cases hi : i < s.size
  · have hlt : (i : Int) < s.size := by omega
    have hnx := bits_next s hi
    have hcc : OV.casts ((bits s).take i) ≤ i := Nat.le_trans (OV.casts_le _) (by rw [List.length_take]; omega)
    have hcs := congrArg OV.casts hnx
    rw [OV.casts_append] at hcs
    by_cases hw : s.data.getD i 0 = 119
    · have hw2 : ((s.data.getD i 0).toNat : Int) = 119 := by rw [hw]; rfl
      have hc0 : OV.casts [s.data.getD i 0 == 99] = 0 := by rw [hw]; rfl
      simp only [hg, h5, hlt, hw2, Int.toNat_natCast, decide_true, coreS, Value.cells, Value.oneCell', Nat.reduceAdd, Nat.reduceSub, Nat.reduceMul, Nat.reduceLeDiff, Int.reduceEq, Nat.reduceEqDiff, Tryd.underlying9]
      refine ⟨by omega, by rw [inK_i64]; omega, by rw [inK_i64]; omega, roundK_mk (by kernel_rfl) ⟨rfl, i + 1, by omega, rfl, ?_⟩ ?_⟩
      · rw [hcs, hc0]
        show Value.int .i64 _ = _
        congr 1; omega
      · show s.size - ((i : Int) + 1).toNat < s.size - (i : Int).toNat
        omega
    · have hc : s.data.getD i 0 = 99 := ((lets_iff s).1 hl i hi).resolve_right hw
      have hw2 : ¬ ((s.data.getD i 0).toNat : Int) = 119 := by rw [hc]; decide
      have hc0 : OV.casts [s.data.getD i 0 == 99] = 1 := by rw [hc]; rfl
      simp only [hg, h5, hlt, hw2, Int.toNat_natCast, decide_true, decide_false, coreS, Value.cells, Value.oneCell', Nat.reduceAdd, Nat.reduceSub, Nat.reduceMul, Nat.reduceLeDiff, Int.reduceEq, Nat.reduceEqDiff, Tryd.underlying9]
      refine ⟨by omega, by rw [inK_i64]; omega, roundK_mk (by kernel_rfl) ⟨rfl, i + 1, by omega, rfl, ?_⟩ ?_⟩
      · rw [hcs, hc0, Nat.add_sub_add_right]
        rfl
      · show s.size - ((i : Int) + 1).toNat < s.size - (i : Int).toNat
        omega
  · have hlt : ¬ (i : Int) < s.size := by omega
    obtain rfl : i = s.size := by omega
    simp only [hg, h5, hlt, decide_false, coreS, Value.cells, Value.oneCell', Nat.reduceAdd, Nat.reduceSub, Nat.reduceMul, Nat.reduceLeDiff, Int.reduceEq, Nat.reduceEqDiff, Tryd.underlying9]
    rw [List.take_of_length_le (by rw [bits_length]; exact Nat.le_refl _)]
theorem ckr35 (m : MV) (x : Int) (p q : ByteArray) (h : Eng.Heap) (hm : m.ok h) (hp : p.size ≤ 9223372036854775807) (hq : q.size ≤ 9223372036854775807) :
    CallsH Tryd.prog 35 #[m.val, .int .i64 x, .string p, .string q] h (fun v h' => v = .tuple #[ratV (ckrV m x p q), .int .i64 (ckrE m x p q)] ∧ Ext h h') := by
  have key : ∀ {e : Int} {P : Prop}, ckrE m x p q = e → e ≠ 0 → P → Value.tuple #[.agg #[.int .i64 0, .int .i64 0], .int .i64 e] = .tuple #[ratV (ckrV m x p q), .int .i64 (ckrE m x p q)] ∧ P := by
    rintro e P rfl he hP
    exact ⟨by rw [ckrV, if_neg he]; rfl, hP⟩
  (refine CallsH_of_exec Tryd.func35 rfl bod35 ?_; simp only [Tryd.ntmps35, Tryd.results35, coreS, stK_some, splice, Value.cells, Value.oneCell', Nat.reduceAdd, Nat.reduceSub, Nat.reduceMul, Nat.reduceLeDiff, Int.reduceEq, Nat.reduceEqDiff, H21Fs35])
  have x0 : Ext h ((h.push (.cells #[.slice m.a m.casts.length m.ca, .slice m.b m.waits.length m.cb, .int .i64 m.lo, .int .i64 m.hi] 24)).push (.cells #[.int .i64 0, .int .i64 0] 45)) := ((Ext.refl h).push _).push _
  refine CallsH.mono (run20 m x p _ (hm.ext x0) hp) ?_
  rintro v h1 ⟨rfl, x1⟩
  have y1 := x0.trans x1
  have b0 := x1.get (pn0 (h := h))
  have b1 := x1.get (pn1 (h := h))
  by_cases e1 : runE m x p = 0
  · simp only [e1, b0, decide_true, Bool.not_true, coreS, Value.cells, Value.oneCell', Nat.reduceAdd, Nat.reduceSub, Nat.reduceMul, Nat.reduceLeDiff, Int.reduceEq, Nat.reduceEqDiff, H21Fs35]
    refine CallsH.mono (run20 m (runA m x p) q h1 (hm.ext y1) hq) ?_
    rintro v h2 ⟨rfl, x2⟩
    have y2 := y1.trans x2
    have b1 := x2.get b1
    by_cases e2 : runE m (runA m x p) q = 0
    · have eE : ckrE m x p q = if runA m (runA m x p) q ≠ runA m x p ∨ runK m (runA m x p) q = 0 then 14 else 0 := by rw [ckrE, if_neg (by simpa using e1), if_neg (by simpa using e2)]
      obtain ⟨⟨hs, hlet⟩, k, hk, hks, hkc⟩ := run_bounds e2
      by_cases f1 : runA m (runA m x p) q = runA m x p
      · by_cases f2 : runK m (runA m x p) q = 0
        · simp only [e2, f1, f2, b1, decide_true, Bool.not_true, splice, coreS, Value.cells, Value.oneCell', Nat.reduceAdd, Nat.reduceSub, Nat.reduceMul, Nat.reduceLeDiff, Int.reduceEq, Nat.reduceEqDiff, H21Fs35]
          refine stK_abs b1 (by simp) fun h3 g3 u3 => ?_
          simp only [splice] at g3
          simp only [g3, splice, coreS, Value.cells, Value.oneCell', Nat.reduceAdd, Nat.reduceSub, Nat.reduceMul, Nat.reduceLeDiff, Int.reduceEq, Nat.reduceEqDiff, H21Fs35]
          exact key (by rw [eE, if_pos (.inr f2)]) (by omega) (u3.ext y2 (by have := y1.size; omega))
        · have hE : ckrE m x p q = 0 := by rw [eE, if_neg]; rintro (h | h); exact h f1; exact f2 h
          have hk0 : 1 ≤ k := by omega
          have hk2 : ¬ (k : Int) = 0 := by omega
          have hV : ckrV m x p q = OV.byP (q.size - k) k := by rw [ckrV, if_pos hE, hk, Int.toNat_natCast]
          simp only [e2, f1, hk, hk2, decide_true, decide_false, Bool.not_true, coreS, Value.cells, Value.oneCell', Nat.reduceAdd, Nat.reduceSub, Nat.reduceMul, Nat.reduceLeDiff, Int.reduceEq, Nat.reduceEqDiff, H21Fs35]
          have ek : (q.size : Int) - (k : Int) = ((q.size - k : Nat) : Int) := by omega
          refine ⟨by rw [inK_i64]; omega, ?_⟩
          rw [ek]
          refine CallsH.mono (by71 (q.size - k) k h2 hk0 (by omega) (by omega)) ?_
          rintro v h3 ⟨rfl, x3⟩
          have b3 := x3.get b1
          simp only [b3, splice, coreS, Value.cells, Value.oneCell', Nat.reduceAdd, Nat.reduceSub, Nat.reduceMul, Nat.reduceLeDiff, Int.reduceEq, Nat.reduceEqDiff, H21Fs35]
          refine stK_abs b3 (by simp) fun h4 g4 u4 => ?_
          simp only [splice] at g4
          simp only [g4, splice, coreS, Value.cells, Value.oneCell', Nat.reduceAdd, Nat.reduceSub, Nat.reduceMul, Nat.reduceLeDiff, Int.reduceEq, Nat.reduceEqDiff, H21Fs35]
          exact ⟨by rw [hE, hV], u4.ext (y2.trans x3) (by have := y1.size; omega)⟩
      · simp only [e2, f1, b1, decide_true, decide_false, Bool.not_true, Bool.not_false, splice, coreS, Value.cells, Value.oneCell', Nat.reduceAdd, Nat.reduceSub, Nat.reduceMul, Nat.reduceLeDiff, Int.reduceEq, Nat.reduceEqDiff, H21Fs35]
        refine stK_abs b1 (by simp) fun h3 g3 u3 => ?_
        simp only [splice] at g3
        simp only [g3, splice, coreS, Value.cells, Value.oneCell', Nat.reduceAdd, Nat.reduceSub, Nat.reduceMul, Nat.reduceLeDiff, Int.reduceEq, Nat.reduceEqDiff, H21Fs35]
        exact key (by rw [eE, if_pos (.inl f1)]) (by omega) (u3.ext y2 (by have := y1.size; omega))
    · simp only [e2, b1, decide_false, Bool.not_false, splice, coreS, Value.cells, Value.oneCell', Nat.reduceAdd, Nat.reduceSub, Nat.reduceMul, Nat.reduceLeDiff, Int.reduceEq, Nat.reduceEqDiff, H21Fs35]
      refine stK_abs b1 (by simp) fun h3 g3 u3 => ?_
      simp only [splice] at g3
      simp only [g3, splice, coreS, Value.cells, Value.oneCell', Nat.reduceAdd, Nat.reduceSub, Nat.reduceMul, Nat.reduceLeDiff, Int.reduceEq, Nat.reduceEqDiff, H21Fs35]
      exact key (by rw [ckrE, if_neg (by simpa using e1), if_pos e2]) e2 (u3.ext y2 (by have := y1.size; omega))
  · simp only [e1, b1, decide_false, Bool.not_false, splice, coreS, Value.cells, Value.oneCell', Nat.reduceAdd, Nat.reduceSub, Nat.reduceMul, Nat.reduceLeDiff, Int.reduceEq, Nat.reduceEqDiff, H21Fs35]
    refine stK_abs b1 (by simp) fun h3 g3 u3 => ?_
    simp only [splice] at g3
    simp only [g3, splice, coreS, Value.cells, Value.oneCell', Nat.reduceAdd, Nat.reduceSub, Nat.reduceMul, Nat.reduceLeDiff, Int.reduceEq, Nat.reduceEqDiff, H21Fs35]
    exact key (by rw [ckrE, if_pos e1]) e1 (u3.ext y1 (by omega))
theorem ckr36 (m : MV) (x : Int) (p q : ByteArray) (h : Eng.Heap) (hm : m.ok h) (hp : p.size ≤ 9223372036854775807) (hq : q.size ≤ 9223372036854775807) :
    CallsH Tryd.prog 36 #[m.val, .int .i64 x, .string p, .string q] h (fun v h' => v = .tuple #[ratV (ckrV m x p q), .int .i64 (ckrE m x p q)] ∧ Ext h h') := by
  have key : ∀ {e : Int} {P : Prop}, ckrE m x p q = e → e ≠ 0 → P → Value.tuple #[.agg #[.int .i64 0, .int .i64 0], .int .i64 e] = .tuple #[ratV (ckrV m x p q), .int .i64 (ckrE m x p q)] ∧ P := by
    rintro e P rfl he hP
    exact ⟨by rw [ckrV, if_neg he]; rfl, hP⟩
  (refine CallsH_of_exec Tryd.func36 rfl bod36 ?_; simp only [Tryd.ntmps36, Tryd.results36, coreS, stK_some, splice, Value.cells, Value.oneCell', Nat.reduceAdd, Nat.reduceSub, Nat.reduceMul, Nat.reduceLeDiff, Int.reduceEq, Nat.reduceEqDiff, H21Fs36])
  have x0 : Ext h ((h.push (.cells #[.slice m.a m.casts.length m.ca, .slice m.b m.waits.length m.cb, .int .i64 m.lo, .int .i64 m.hi] 24)).push (.cells #[.int .i64 0, .int .i64 0] 45)) := ((Ext.refl h).push _).push _
  refine CallsH.mono (run21 m x p _ (hm.ext x0) hp) ?_
  rintro v h1 ⟨rfl, x1⟩
  have y1 := x0.trans x1
  have b0 := x1.get (pn0 (h := h))
  have b1 := x1.get (pn1 (h := h))
  by_cases e1 : runE m x p = 0
  · simp only [e1, b0, decide_true, Bool.not_true, coreS, Value.cells, Value.oneCell', Nat.reduceAdd, Nat.reduceSub, Nat.reduceMul, Nat.reduceLeDiff, Int.reduceEq, Nat.reduceEqDiff, H21Fs36]
    refine CallsH.mono (run21 m (runA m x p) q h1 (hm.ext y1) hq) ?_
    rintro v h2 ⟨rfl, x2⟩
    have y2 := y1.trans x2
    have b1 := x2.get b1
    by_cases e2 : runE m (runA m x p) q = 0
    · have eE : ckrE m x p q = if runA m (runA m x p) q ≠ runA m x p ∨ runK m (runA m x p) q = 0 then 14 else 0 := by rw [ckrE, if_neg (by simpa using e1), if_neg (by simpa using e2)]
      obtain ⟨⟨hs, hlet⟩, k, hk, hks, hkc⟩ := run_bounds e2
      by_cases f1 : runA m (runA m x p) q = runA m x p
      · by_cases f2 : runK m (runA m x p) q = 0
        · simp only [e2, f1, f2, b1, decide_true, Bool.not_true, splice, coreS, Value.cells, Value.oneCell', Nat.reduceAdd, Nat.reduceSub, Nat.reduceMul, Nat.reduceLeDiff, Int.reduceEq, Nat.reduceEqDiff, H21Fs36]
          refine stK_abs b1 (by simp) fun h3 g3 u3 => ?_
          simp only [splice] at g3
          simp only [g3, splice, coreS, Value.cells, Value.oneCell', Nat.reduceAdd, Nat.reduceSub, Nat.reduceMul, Nat.reduceLeDiff, Int.reduceEq, Nat.reduceEqDiff, H21Fs36]
          exact key (by rw [eE, if_pos (.inr f2)]) (by omega) (u3.ext y2 (by have := y1.size; omega))
        · have hE : ckrE m x p q = 0 := by rw [eE, if_neg]; rintro (h | h); exact h f1; exact f2 h
          have hk0 : 1 ≤ k := by omega
          have hk2 : ¬ (k : Int) = 0 := by omega
          have hV : ckrV m x p q = OV.byP (q.size - k) k := by rw [ckrV, if_pos hE, hk, Int.toNat_natCast]
          simp only [e2, f1, hk, hk2, decide_true, decide_false, Bool.not_true, coreS, Value.cells, Value.oneCell', Nat.reduceAdd, Nat.reduceSub, Nat.reduceMul, Nat.reduceLeDiff, Int.reduceEq, Nat.reduceEqDiff, H21Fs36]
          refine CallsH.mono (count73 q h2 hlet (by omega)) ?_
          rintro v h2' ⟨rfl, rfl⟩
          simp only [hk, coreS, Value.cells, Value.oneCell', Nat.reduceAdd, Nat.reduceSub, Nat.reduceMul, Nat.reduceLeDiff, Int.reduceEq, Nat.reduceEqDiff, H21Fs36]
          rw [← hkc]
          refine CallsH.mono (by72 (q.size - k) k _ hk0 (by omega) (by omega)) ?_
          rintro v h3 ⟨rfl, x3⟩
          have b3 := x3.get b1
          simp only [b3, splice, coreS, Value.cells, Value.oneCell', Nat.reduceAdd, Nat.reduceSub, Nat.reduceMul, Nat.reduceLeDiff, Int.reduceEq, Nat.reduceEqDiff, H21Fs36]
          refine stK_abs b3 (by simp) fun h4 g4 u4 => ?_
          simp only [splice] at g4
          simp only [g4, splice, coreS, Value.cells, Value.oneCell', Nat.reduceAdd, Nat.reduceSub, Nat.reduceMul, Nat.reduceLeDiff, Int.reduceEq, Nat.reduceEqDiff, H21Fs36]
          exact ⟨by rw [hE, hV], u4.ext (y2.trans x3) (by have := y1.size; omega)⟩
      · simp only [e2, f1, b1, decide_true, decide_false, Bool.not_true, Bool.not_false, splice, coreS, Value.cells, Value.oneCell', Nat.reduceAdd, Nat.reduceSub, Nat.reduceMul, Nat.reduceLeDiff, Int.reduceEq, Nat.reduceEqDiff, H21Fs36]
        refine stK_abs b1 (by simp) fun h3 g3 u3 => ?_
        simp only [splice] at g3
        simp only [g3, splice, coreS, Value.cells, Value.oneCell', Nat.reduceAdd, Nat.reduceSub, Nat.reduceMul, Nat.reduceLeDiff, Int.reduceEq, Nat.reduceEqDiff, H21Fs36]
        exact key (by rw [eE, if_pos (.inl f1)]) (by omega) (u3.ext y2 (by have := y1.size; omega))
    · simp only [e2, b1, decide_false, Bool.not_false, splice, coreS, Value.cells, Value.oneCell', Nat.reduceAdd, Nat.reduceSub, Nat.reduceMul, Nat.reduceLeDiff, Int.reduceEq, Nat.reduceEqDiff, H21Fs36]
      refine stK_abs b1 (by simp) fun h3 g3 u3 => ?_
      simp only [splice] at g3
      simp only [g3, splice, coreS, Value.cells, Value.oneCell', Nat.reduceAdd, Nat.reduceSub, Nat.reduceMul, Nat.reduceLeDiff, Int.reduceEq, Nat.reduceEqDiff, H21Fs36]
      exact key (by rw [ckrE, if_neg (by simpa using e1), if_pos e2]) e2 (u3.ext y2 (by have := y1.size; omega))
  · simp only [e1, b1, decide_false, Bool.not_false, splice, coreS, Value.cells, Value.oneCell', Nat.reduceAdd, Nat.reduceSub, Nat.reduceMul, Nat.reduceLeDiff, Int.reduceEq, Nat.reduceEqDiff, H21Fs36]
    refine stK_abs b1 (by simp) fun h3 g3 u3 => ?_
    simp only [splice] at g3
    simp only [g3, splice, coreS, Value.cells, Value.oneCell', Nat.reduceAdd, Nat.reduceSub, Nat.reduceMul, Nat.reduceLeDiff, Int.reduceEq, Nat.reduceEqDiff, H21Fs36]
    exact key (by rw [ckrE, if_pos e1]) e1 (u3.ext y1 (by omega))
end Go.Proofs.YtafemfjhflfdeaaDoor
end
section
namespace Go.Proofs.YtafemfjhflfdeaaDoor
open Go Go.Proofs Go.Eng Go.Run Tab
set_option maxRecDepth 100000
set_option linter.unusedSimpArgs false
set_option linter.unusedVariables false
set_option linter.defProp false
set_option maxHeartbeats 4000000
set_option linter.defProp false
def H28Fs95 := (And.intro (And.intro @agg45 (And.intro @by45 @inf45)) (And.intro @sz45 (And.intro @zero45 @Tryd.underlying123)))
def H28Fs96 := (And.intro (And.intro @agg2 @fo45_0) (And.intro @fo45_1 (And.intro @inf2 @sz2)))
abbrev Rt := Nat × Nat
def rtC (w : Rt) : List Value := [.int .i64 (w.1 : Int), .int .i64 (w.2 : Int)]
def ratsC (l : List Rt) : List Value := l.flatMap rtC
theorem ratsC_length (l : List Rt) : (ratsC l).length = l.length * 2 := by
  induction l with
  | nil => rfl
  | cons w l ih => rw [ratsC, List.flatMap_cons, List.length_append, ← ratsC, ih]; simp [rtC]; omega
theorem ratsC_drop : ∀ (l : List Rt) (j : Nat), (ratsC l).drop (j * 2) = ratsC (l.drop j)
  | [], j => by simp [ratsC]
  | w :: l, 0 => by simp
  | w :: l, j + 1 => by
    have := ratsC_drop l j
    rw [show (j + 1) * 2 = j * 2 + 2 by omega]
    simp only [ratsC, List.flatMap_cons, rtC, List.cons_append, List.nil_append, List.drop_succ_cons] at this ⊢
    exact this
theorem ratsC_get (l : List Rt) (j : Nat) (hj : j < l.length) : ((ratsC l).drop (j * 2)).take 2 = rtC l[j] := by
  rw [ratsC_drop, List.drop_eq_getElem_cons hj]
  rfl
theorem ratsC_append (l k : List Rt) : ratsC (l ++ k) = ratsC l ++ ratsC k := by simp [ratsC]
theorem less96 (x y : Rt) (h : Eng.Heap) (hx : x.1 ≤ 1000000 ∧ x.2 ≤ 1000000) (hy : y.1 ≤ 1000000 ∧ y.2 ≤ 1000000) : CallsH Tryd.prog 96 (#[] ++ #[ratV x, ratV y] ++ #[]) h (fun v h' => v = .bool (OV.lessQ x y) ∧ Ext h h') := by
  simp only [Array.append_empty, Array.empty_append]
  have m1 : x.1 * y.2 ≤ 1000000 * 1000000 := Nat.mul_le_mul hx.1 hy.2
  have m2 : y.1 * x.2 ≤ 1000000 * 1000000 := Nat.mul_le_mul hy.1 hx.2
  have e1 : (x.1 : Int) * (y.2 : Int) = ((x.1 * y.2 : Nat) : Int) := by omega
  have e2 : (y.1 : Int) * (x.2 : Int) = ((y.1 * x.2 : Nat) : Int) := by omega
  (refine CallsH_of_exec Tryd.func96 rfl bod96 ?_; simp only [Tryd.ntmps96, Tryd.results96, coreS, stK_some, splice, Value.cells, Value.oneCell', Nat.reduceAdd, Nat.reduceSub, Nat.reduceMul, Nat.reduceLeDiff, Int.reduceEq, Nat.reduceEqDiff, H28Fs96])
  rw [e1, e2]
  refine ⟨by rw [inK_i64]; omega, by rw [inK_i64]; omega, ?_⟩
  refine ⟨?_, ((Ext.refl h).push _).push _⟩
  rw [OV.lessQ]
  congr 1
  rw [decide_eq_decide]
  omega
theorem bestQ_next (x : Rt) (xs : List Rt) {i : Nat} (hi : i < xs.length) : OV.bestQ x (xs.take (i + 1)) = if OV.lessQ xs[i] (OV.bestQ x (xs.take i)) then xs[i] else OV.bestQ x (xs.take i) := by
  rw [List.take_add_one, List.getElem?_eq_getElem hi]
  simp only [OV.bestQ, Option.toList_some, List.foldl_append, List.foldl_cons, List.foldl_nil]
  rfl
theorem bestQ_mem (x : Rt) : ∀ (xs : List Rt), OV.bestQ x xs = x ∨ OV.bestQ x xs ∈ xs := by
  intro xs
  induction xs generalizing x with
  | nil => exact .inl rfl
  | cons y ys ih =>
    simp only [OV.bestQ, List.foldl_cons] at ih ⊢
    split
    · rcases ih y with h | h
      · right; rw [h]; exact List.mem_cons_self
      · right; exact List.mem_cons_of_mem _ h
    · rcases ih x with h | h
      · left; exact h
      · right; exact List.mem_cons_of_mem _ h
theorem best95 (a : Option Addr) (n c : Nat) (x : Rt) (xs : List Rt) (h : Eng.Heap) (hr : Row h a (ratsC (x :: xs))) (hn : n = xs.length + 1) (h1 : 1 ≤ n) (h2 : n ≤ c) (h3 : n ≤ 1000) (hbd : ∀ y ∈ x :: xs, y.1 ≤ 1000000 ∧ y.2 ≤ 1000000) :
    CallsH Tryd.prog 95 #[.slice a n c, .func (.func 96) #[] #[]] h (fun v h' => v = ratV (OV.bestQ x xs) ∧ Ext h h') := by
  have hsm : a.isSome = true := hr.isSome (by rw [ratsC_length]; simp)
  obtain ⟨p, rfl⟩ := Option.isSome_iff_exists.1 hsm
  have c0 : ∀ {hh : Eng.Heap} (y : Ext h hh) (j : Nat) (hj : j < (x :: xs).length), cellsH hh (eltP (some p) (j * 2)) 2 = some [.int .i64 ((x :: xs)[j].1 : Int), .int .i64 ((x :: xs)[j].2 : Int)] := fun y j hj => by
    have := (hr.ext y).cells (j := j * 2) (n := 2) (by rw [ratsC_length]; omega) (by omega)
    rw [this, ratsC_get _ _ hj]; rfl
  have cx : ∀ {hh : Eng.Heap} (y : Ext h hh), cellsH hh (eltP (some p) 0) 2 = some [.int .i64 (x.1 : Int), .int .i64 (x.2 : Int)] := fun y => c0 y 0 (by simp)
  (refine CallsH_of_exec Tryd.func95 rfl bod95 ?_; simp only [Tryd.ntmps95, Tryd.results95, coreS, stK_some, splice, Value.cells, Value.oneCell', Nat.reduceAdd, Nat.reduceSub, Nat.reduceMul, Nat.reduceLeDiff, Int.reduceEq, Nat.reduceEqDiff, H28Fs95])
  have e0 := (Ext.refl h).push (.cells #[.int .i64 0, .int .i64 0] 45)
  have z0 := push_new (h := h) (o := .cells #[.int .i64 0, .int .i64 0] 45)
  simp only [cx e0, splice, coreS, Value.cells, Value.oneCell', Nat.reduceAdd, Nat.reduceSub, Nat.reduceMul, Nat.reduceLeDiff, Int.reduceEq, Nat.reduceEqDiff, H28Fs95]
  refine ⟨by omega, rfl, ?_⟩
  refine stK_abs pn1 (by simp) fun h3 k1 u3 => ?_
  simp only [splice] at k1
  have k0 := u3.get (push_old (o := .cells #[.int .i64 0, .int .i64 0] 45) z0) (by omega)
  have e1 := u3.ext (e0.push (.cells #[.int .i64 0, .int .i64 0] 45)) (by omega)
  have hxl : n = xs.length + 1 := hn
  have ta : ((n : Int) - 1).toNat = xs.length := by omega
  simp only [ta, coreS, Value.cells, Value.oneCell', Nat.reduceAdd, Nat.reduceSub, Nat.reduceMul, Nat.reduceLeDiff, Int.reduceEq, Nat.reduceEqDiff, H28Fs95]
  refine ⟨by omega, by omega, by omega, by omega, ?_⟩
  refine WP_loopI [7, 14, 15, 16, 17, 18, 19, 20, 21, 22, 23] (fun g h' => ∃ i : Nat, i ≤ xs.length ∧ g 14 = .int .i64 (i : Int) ∧ h'[h.size + 1]? = some (.cells #[.int .i64 ((OV.bestQ x (xs.take i)).1 : Int), .int .i64 ((OV.bestQ x (xs.take i)).2 : Int)] 45) ∧ h'[h.size]? = some (.cells #[.int .i64 0, .int .i64 0] 45) ∧ Ext h h') (fun g _ => match g 14 with | .int _ q => xs.length - q.toNat | _ => 0) ⟨0, by omega, rfl, k1, k0, e1⟩ ?_
  rintro g h' ⟨i, hin, hg, g1, g0, y⟩
  by_cases hi : i < xs.length
  · have hcap : ¬ (c : Int) = 1 := by omega
    have hel : eltP (eltP (some p) 2) (i * 2) = eltP (some p) ((i + 1) * 2) := by rw [eltP_eltP (by omega)]; congr 1; omega
    have cy := c0 y (i + 1) (by simp; omega)
    rw [← hel, List.getElem_cons_succ] at cy
    have hs' := lt_of_get g1
    simp only [hg, hcap, if_false, cy, Int.toNat_natCast, Nat.one_mul, splice, coreS, Value.cells, Value.oneCell', Nat.reduceAdd, Nat.reduceSub, Nat.reduceMul, Nat.reduceLeDiff, Int.reduceEq, Nat.reduceEqDiff, H28Fs95]
    refine ⟨fun _ => ⟨⟨by omega, by omega⟩, rfl, ?_⟩, fun hge => absurd hge (by omega)⟩
    refine stK_abs (push_new (h := h') (o := .cells #[.int .i64 0, .int .i64 0] 45)) (by simp) fun h5 g5 u5 => ?_
    simp only [splice] at g5
    have y5 := u5.ext (y.push (.cells #[.int .i64 0, .int .i64 0] 45)) (by have := y.size; omega)
    have j1 := u5.get (push_old (o := .cells #[.int .i64 0, .int .i64 0] 45) g1) (by omega)
    have j0 := u5.get (push_old (o := .cells #[.int .i64 0, .int .i64 0] 45) g0) (by have := y.size; omega)
    simp only [g5, j1, splice, coreS, Value.cells, Value.oneCell', Nat.reduceAdd, Nat.reduceSub, Nat.reduceMul, Nat.reduceLeDiff, Int.reduceEq, Nat.reduceEqDiff, H28Fs95]
    have hbb : (OV.bestQ x (xs.take i)).1 ≤ 1000000 ∧ (OV.bestQ x (xs.take i)).2 ≤ 1000000 := by
      rcases bestQ_mem x (xs.take i) with h | h
      · rw [h]; exact hbd x List.mem_cons_self
      · exact hbd _ (List.mem_cons_of_mem _ (List.mem_of_mem_take h))
    refine CallsH.mono (less96 xs[i] (OV.bestQ x (xs.take i)) h5 (hbd _ (List.mem_cons_of_mem _ (List.getElem_mem hi))) hbb) ?_
    rintro v h6 ⟨rfl, x6⟩
    have hbn := bestQ_next x xs hi
    cases hlt : OV.lessQ xs[i] (OV.bestQ x (xs.take i)) with
    | true =>
      rw [hlt, if_pos rfl] at hbn
      simp only [hlt, decide_true, x6.get g5, x6.get j1, splice, coreS, Value.cells, Value.oneCell', Nat.reduceAdd, Nat.reduceSub, Nat.reduceMul, Nat.reduceLeDiff, Int.reduceEq, Nat.reduceEqDiff, H28Fs95]
      refine stK_abs (x6.get j1) (by simp) fun h7 g7 u7 => ?_
      simp only [splice] at g7
      simp only [coreS, Value.cells, Value.oneCell', Nat.reduceAdd, Nat.reduceSub, Nat.reduceMul, Nat.reduceLeDiff, Int.reduceEq, Nat.reduceEqDiff, H28Fs95]
      refine ⟨by rw [inK_i64]; omega, roundK_mk (by kernel_rfl) ⟨i + 1, by omega, rfl, by rw [hbn]; exact g7, u7.get (x6.get j0) (by omega), u7.ext (y5.trans x6) (by omega)⟩ ?_⟩
      show xs.length - ((i : Int) + 1).toNat < xs.length - (i : Int).toNat
      omega
    | false =>
      rw [hlt, if_neg (by decide)] at hbn
      simp only [hlt, decide_false, coreS, Value.cells, Value.oneCell', Nat.reduceAdd, Nat.reduceSub, Nat.reduceMul, Nat.reduceLeDiff, Int.reduceEq, Nat.reduceEqDiff, H28Fs95]
      refine ⟨by rw [inK_i64]; omega, roundK_mk (by kernel_rfl) ⟨i + 1, by omega, rfl, by rw [hbn]; exact x6.get j1, x6.get j0, y5.trans x6⟩ ?_⟩
      show xs.length - ((i : Int) + 1).toNat < xs.length - (i : Int).toNat
      omega
  · obtain rfl : i = xs.length := by omega
    rw [List.take_of_length_le (Nat.le_refl _)] at g1
    simp only [hg, g1, g0, splice, coreS, Value.cells, Value.oneCell', Nat.reduceAdd, Nat.reduceSub, Nat.reduceMul, Nat.reduceLeDiff, Int.reduceEq, Nat.reduceEqDiff, H28Fs95]
    refine ⟨fun hlt => absurd hlt (by omega), fun _ => ?_⟩
    refine stK_abs g0 (by simp) fun h5 g5 u5 => ?_
    simp only [splice] at g5
    simp only [g5, splice, coreS, Value.cells, Value.oneCell', Nat.reduceAdd, Nat.reduceSub, Nat.reduceMul, Nat.reduceLeDiff, Int.reduceEq, Nat.reduceEqDiff, H28Fs95]
    exact u5.ext y (Nat.le_refl _)
end Go.Proofs.YtafemfjhflfdeaaDoor
end
section
namespace Go.Proofs.YtafemfjhflfdeaaDoor
open Go Go.Proofs Go.Eng Go.Run Tab
set_option maxRecDepth 100000
set_option linter.unusedSimpArgs false
set_option linter.unusedVariables false
set_option linter.defProp false
set_option maxHeartbeats 4000000
set_option linter.defProp false
def H29Fs37 := (And.intro (And.intro (And.intro @agg24 (And.intro @agg45 @by3)) (And.intro @inf24 (And.intro @inf3 @inf45))) (And.intro (And.intro @okf45 (And.intro @sz24 @sz3)) (And.intro (And.intro @sz45 @zero3) (And.intro @zero45 @Tryd.underlying22))))
def H29Fs74 := (And.intro (And.intro (And.intro (And.intro @agg22 @agg3) (And.intro @agg45 (And.intro @agg97 @by45))) (And.intro (And.intro @fo112_0 @fo24_0) (And.intro @inf22 (And.intro @inf3 @inf45)))) (And.intro (And.intro (And.intro @inf97 @sz22) (And.intro @sz3 (And.intro @sz45 @sz97))) (And.intro (And.intro @zero45 @zero97) (And.intro @Tryd.underlying22 (And.intro @Tryd.underlying97 @Tryd.underlying123)))))
theorem app123 {h : Eng.Heap} {er : Env} {ty : TypeId} {m0 : Nat} {x y : Operand} {a b : Option Addr} {len cap m c : Nat} {xs ys : List Rt} {K : Value → Eng.Heap → Prop} (hx : ev er x = .slice a len cap) (hy : ev er y = .slice b m c) (O : OwnV m0 h 45 2 a len cap (ratsC xs)) (h0h : m0 ≤ h.size) (I : Row h b (ratsC ys)) (hm : ys.length = m) (hb : len + m ≤ 1000)
    (H : ∀ a' cap' h', OwnV m0 h' 45 2 a' (len + m) cap' (ratsC (xs ++ ys)) → App h h' a a' → K (.slice a' (len + m) cap') h') : opSem Tryd.prog (.call ⟨.builtin .append, #[x, y], #[123, 123]⟩) ty er h K :=
  append_valsT Tryd.underlying123 Tryd.underlying123 inf45 sz45 zero45 (by rfl) hx hy O h0h I (by rw [ratsC_length, hm]) (fun u hu => by
    simp only [ratsC, List.mem_flatMap, rtC] at hu
    obtain ⟨e, _, hu⟩ := hu
    simp at hu
    rcases hu with rfl | rfl <;> rfl) (by omega) (by rw [by45]; omega) (fun a' cap' h' O' A => H a' cap' h' (by rw [ratsC_append]; exact O') A)
theorem App.othV {h h' : Eng.Heap} {a a' : Option Addr} {el : TypeId} {s len cap : Nat} {xs : List Value} {m c : Nat} {o : Obj} (A : App h h' a a') (O : OwnV m h el s a len cap xs) (hc : h[c]? = some o) (hne : ∀ cur, o ≠ .cells cur el (0, 0)) : h'[c]? = some o :=
  (A.old c (lt_of_get hc) fun p hp hpc => by
    rcases O.ok with ⟨h1, _⟩ | ⟨g, cur, h1, _, h3, _⟩
    · rw [h1] at hp; cases hp
    · rw [h1] at hp; cases hp
      subst hpc
      rw [hc] at h3
      exact hne cur (Option.some.inj h3)).trans hc
theorem OwnV.updO {h h' : Eng.Heap} {a : Option Addr} {el : TypeId} {s len cap : Nat} {xs : List Value} {m c : Nat} {o : Obj} (O : OwnV m h el s a len cap xs) (u : Upd h h' c) (hc : h[c]? = some o) (hne : ∀ cur, o ≠ .cells cur el (0, 0)) : OwnV m h' el s a len cap xs :=
  O.keep fun p hp => u.old _ fun hpc => by
    rcases O.ok with ⟨h1, _⟩ | ⟨g, cur, h1, _, h3, _⟩
    · rw [h1] at hp; cases hp
    · rw [h1] at hp; cases hp
      subst hpc
      rw [hc] at h3
      exact hne cur (Option.some.inj h3)
theorem rtX_length (o : OV) (i h k : Nat) : (o.rtX i h k).length ≤ 1 := by unfold OV.rtX; split <;> simp
theorem rtH_length (o : OV) (i h : Nat) : ∀ k, (o.rtH i h k).length ≤ k
  | 0 => by simp [OV.rtH]
  | k + 1 => by rw [OV.rtH_succ, List.length_append]; have := rtH_length o i h k; have := rtX_length o i h (k + 1); omega
theorem rtL_length (o : OV) (i : Nat) : ∀ h, (o.rtL i h).length ≤ h * o.n
  | 0 => by simp [OV.rtL]
  | h + 1 => by rw [OV.rtL_succ, List.length_append, Nat.succ_mul]; have := rtL_length o i h; have := rtH_length o i h o.n; omega
theorem far_st {n i : Nat} (hn : n ≤ 16) (hi : i < n) : (farI 16).set i 0 = pad ((List.replicate n OV.far).set i 0) := by
  rw [farI_pad hn, ← pad_set (by simpa using hi)]; rfl
theorem bk_small {o : OV} (ok : o.ok) {j k i : Nat} (hj : j < o.n) (hk : k ≤ 40) (hi : i < o.n) (h : (o.bk j k).getD i 0 < OV.far) : (o.bk j k).getD i 0 ≤ 1000 := by
  have h1 := OV.bk_bd ok hj k hk i hi
  have h16 := ok.n16
  have : (k + 1) * o.n ≤ 41 * 16 := Nat.mul_le_mul (by omega) h16
  omega
theorem rt_small {o : OV} (ok : o.ok) {i : Nat} : ∀ y ∈ o.rtL i o.n, y.1 ≤ 1000000 ∧ y.2 ≤ 1000000 := by
  intro y hy
  rw [OV.rtL, List.mem_flatMap] at hy
  obtain ⟨h, hh, hy⟩ := hy
  rw [OV.rtH, List.mem_flatMap] at hy
  obtain ⟨k, hk, hy⟩ := hy
  have hh := List.mem_range.1 hh
  have hk := List.mem_range.1 hk
  have h16 := ok.n16
  unfold OV.rtX at hy
  split at hy
  · rename_i hb
    rw [List.mem_singleton] at hy
    subst hy
    simp only [OV.isBk, Bool.and_eq_true, decide_eq_true_eq] at hb
    have := bk_small ok hh (by omega) hh hb.1
    refine ⟨Nat.le_trans (Nat.div_le_self _ _) (by omega), Nat.le_trans (Nat.div_le_self _ _) (by omega)⟩
  · cases hy
theorem rate74 (m : MV) (gd : m.Good) (hn16 : m.casts.length ≤ 16) (b i0 : Nat) (hi0 : i0 < m.casts.length) (h : Eng.Heap) (hm : m.ok h) (ho : Oven h b m) (hlw : (m.ov.lw m.casts.length (i0, i0)).isSome) :
    CallsH Tryd.prog 74 #[.pointer (some ⟨b, 0, none⟩), .int .i64 i0] h (fun r h' => r = ratV (m.ov.rate i0) ∧ Ext h h') := by
  have ho' : h[b]? = some (.cells #[.slice m.a m.casts.length m.ca, .slice m.b m.waits.length m.cb, .int .i64 m.lo, .int .i64 m.hi] 112) := ho
  have hcl := hm.cl
  have hnn : m.ov.n = m.casts.length := rfl
  have x0 : Ext h (h.push (.cells #[.int .i64 0, .int .i64 0] 45)) := (Ext.refl h).push _
  have g0 := push_new (h := h) (o := .cells #[.int .i64 0, .int .i64 0] 45)
  (refine CallsH_of_exec Tryd.func74 rfl bod74 ?_; simp only [Tryd.ntmps74, Tryd.results74, coreS, stK_some, splice, Value.cells, Value.oneCell', Nat.reduceAdd, Nat.reduceSub, Nat.reduceMul, Nat.reduceLeDiff, Int.reduceEq, Nat.reduceEqDiff, H29Fs74])
  have hbl := lt_of_get ho'
  simp only [show ¬ b = h.size by omega, if_false, ho', coreS, Value.cells, Value.oneCell', Nat.reduceAdd, Nat.reduceSub, Nat.reduceMul, Nat.reduceLeDiff, Int.reduceEq, Nat.reduceEqDiff, H29Fs74]
  refine WP_loopI [5, 6, 7, 8, 9, 16, 17, 18, 19, 20, 21, 22, 23, 24, 25, 26, 27, 28, 29, 30, 31, 32, 33, 34, 35, 36, 37, 38, 39, 40, 41, 42, 43, 44, 45, 46, 47, 48, 49, 50, 51, 52, 53, 54, 55, 56, 57, 58, 59, 60, 61] (fun g h' => ∃ (hh len cap : Nat) (a : Option Addr), hh ≤ m.casts.length ∧ g 16 = .int .i64 hh ∧ g 5 = .slice a len cap ∧ len = (m.ov.rtL i0 hh).length ∧ OwnV (h.size + 1) h' 45 2 a len cap (ratsC (m.ov.rtL i0 hh)) ∧ h'[h.size]? = some (.cells #[.int .i64 0, .int .i64 0] 45) ∧ h.size + 1 ≤ h'.size ∧ Ext h h') (fun g _ => match g 16 with | .int _ q => m.casts.length - q.toNat | _ => 0) ⟨0, 0, 0, none, by omega, rfl, rfl, rfl, OwnV.nil _ _ _ _, g0, by simp, x0⟩ ?_
  clear g0 x0
  rintro g h1 ⟨hh, len, cap, a, hhn, hg16, hg5, hlen, O, g0, hs1, y1⟩
  have hlb := rtL_length m.ov i0 hh
  by_cases hlt : hh < m.casts.length
  · have hlt2 : (hh : Int) < m.casts.length := by omega
    simp only [hg16, hlt2, decide_true, coreS, Value.cells, Value.oneCell', Nat.reduceAdd, Nat.reduceSub, Nat.reduceMul, Nat.reduceLeDiff, Int.reduceEq, Nat.reduceEqDiff, H29Fs74]
    have tz := push_new (h := h1) (o := .cells (Eng.ints (List.replicate 16 0)).toArray 97)
    have xz : Ext h1 (h1.push (.cells (Eng.ints (List.replicate 16 0)).toArray 97)) := (Ext.refl h1).push _
    refine WP_loopI [8, 19, 20, 21, 22, 23, 24] (fun g h' => ∃ j : Nat, j ≤ 16 ∧ g 19 = .int .i64 j ∧ h'[h1.size]? = some (.cells (Eng.ints (farI j)).toArray 97) ∧ h'.size = h1.size + 1 ∧ Ext h1 h') (fun g _ => match g 19 with | .int _ q => 16 - q.toNat | _ => 0) ⟨0, by omega, rfl, tz, by simp, xz⟩ ?_
    clear tz xz
    rintro g2 h2 ⟨j, hj, hg19, t2, hs2, x2⟩
    by_cases hj16 : j < 16
    · have hj2 : (j : Int) < 16 := by omega
      simp only [hg19, hj2, t2, decide_true, coreS, Value.cells, Value.oneCell', Nat.reduceAdd, Nat.reduceSub, Nat.reduceMul, Nat.reduceLeDiff, Int.reduceEq, Nat.reduceEqDiff, H29Fs74]
      refine ⟨⟨by omega, by omega⟩, ?_⟩
      refine stK_int t2 (by rw [farI_length hj]; omega) fun h3 g3 u3 => ?_
      have e3 : (farI j).set j 1048576 = farI (j + 1) := farI_set hj16
      rw [e3] at g3
      simp only [coreS, Value.cells, Value.oneCell', Nat.reduceAdd, Nat.reduceSub, Nat.reduceMul, Nat.reduceLeDiff, Int.reduceEq, Nat.reduceEqDiff, H29Fs74]
      refine ⟨by rw [inK_i64]; omega, roundK_mk (by kernel_rfl) ⟨j + 1, by omega, rfl, g3, by rw [u3.size]; exact hs2, u3.ext x2 (Nat.le_refl _)⟩ ?_⟩
      show 16 - ((j : Int) + 1).toNat < 16 - (j : Int).toNat
      omega
    · have hj2 : ¬ (j : Int) < 16 := by omega
      obtain rfl : j = 16 := by omega
      simp only [hg19, hj2, t2, decide_false, coreS, Value.cells, Value.oneCell', Nat.reduceAdd, Nat.reduceSub, Nat.reduceMul, Nat.reduceLeDiff, Int.reduceEq, Nat.reduceEqDiff, H29Fs74]
      refine ⟨⟨by omega, by omega⟩, ?_⟩
      refine stK_int t2 (by rw [farI_length hj]; omega) fun h3 g3 u3 => ?_
      rw [far_st hn16 hlt] at g3
      have g3 : h3[h1.size]? = some (.cells (Eng.ints (pad (m.ov.st hh))).toArray 97) := g3
      have x3 : Ext h1 h3 := u3.ext x2 (Nat.le_refl _)
      have hs3 : h3.size = h1.size + 1 := by rw [u3.size]; exact hs2
      have hstl : (m.ov.st hh).length = m.casts.length := by simp [OV.st]; rfl
      simp only [g3, pad_ces (v := m.ov.st hh) (by omega), coreS, Value.cells, Value.oneCell', Nat.reduceAdd, Nat.reduceSub, Nat.reduceMul, Nat.reduceLeDiff, Int.reduceEq, Nat.reduceEqDiff, H29Fs74]
      refine CallsH.mono (cooled92 m gd hn16 b (m.ov.st hh) hstl (fun q hq => by
        rw [OV.st, OV.getD_set' (by rw [List.length_replicate]; exact hlt)]
        split
        · omega
        · simp [List.getD_eq_getElem?_getD, hnn, hq]) h3 (hm.ext (y1.trans x3)) ((y1.trans x3).get ho')) ?_
      rintro r h4 ⟨rfl, x4⟩
      have hbl0 := OV.bk_length (o := m.ov) hh 0
      simp only [coreS, Value.cells, Value.oneCell', Nat.reduceAdd, Nat.reduceSub, Nat.reduceMul, Nat.reduceLeDiff, Int.reduceEq, Nat.reduceEqDiff, H29Fs74]
      refine st_hts (cur := Eng.ints (pad (m.ov.st hh))) (pad_length (v := m.ov.bk hh 0) (by omega)) (by rw [Eng.ints_length, pad_length (by omega)]) (x4.get g3) fun h5 g5 u5 => ?_
      have x5 : Ext h1 h5 := u5.ext (x3.trans x4) (Nat.le_refl _)
      simp only [coreS, Value.cells, Value.oneCell', Nat.reduceAdd, Nat.reduceSub, Nat.reduceMul, Nat.reduceLeDiff, Int.reduceEq, Nat.reduceEqDiff, H29Fs74]
      refine WP_loopI [5, 9, 30, 31, 32, 33, 34, 35, 36, 37, 38, 39, 40, 41, 42, 43, 44, 45, 46, 47, 48, 49, 50, 51, 52, 53, 54, 55, 56, 57, 58, 59, 60] (fun g h' => ∃ (k len' cap' : Nat) (a' : Option Addr), 1 ≤ k ∧ k ≤ m.casts.length + 1 ∧ g 9 = .int .i64 k ∧ g 5 = .slice a' len' cap' ∧ len' = (m.ov.rtL i0 hh ++ m.ov.rtH i0 hh (k - 1)).length ∧ OwnV (h.size + 1) h' 45 2 a' len' cap' (ratsC (m.ov.rtL i0 hh ++ m.ov.rtH i0 hh (k - 1))) ∧ h'[h1.size]? = some (.cells (Eng.ints (pad (m.ov.bk hh (k - 1)))).toArray 97) ∧ h'[h.size]? = some (.cells #[.int .i64 0, .int .i64 0] 45) ∧ Ext h h' ∧ h1.size + 1 ≤ h'.size) (fun g _ => match g 9 with | .int _ q => m.casts.length + 1 - q.toNat | _ => 0) ⟨1, len, cap, a, by omega, by omega, rfl, hg5, by simpa [OV.rtH] using hlen, by simpa [OV.rtH] using O.ext x5, g5, x5.get g0, y1.trans x5, by have := x5.size; have := x4.size; have := u5.size; omega⟩ ?_
      clear g5 u5 x5 g3 u3 t2 x2 x3 x4
      rintro g6 h6 ⟨k, len', cap', a', hk1, hkn, hg9, hg5', hlen', O', t6, g06, y6, hs6⟩
      have hrl := rtH_length m.ov i0 hh (k - 1)
      have ho6 := y6.get ho'
      rw [List.length_append] at hlen'
      by_cases hkl : k ≤ m.casts.length
      · have hk2 : (k : Int) ≤ m.casts.length := by omega
        obtain ⟨k0, rfl⟩ : ∃ k0, k = k0 + 1 := ⟨k - 1, by omega⟩
        rw [Nat.add_sub_cancel] at hlen' O' t6 hrl
        have hbl := OV.bk_length (o := m.ov) hh k0
        have hbl1 := OV.bk_length (o := m.ov) hh (k0 + 1)
        simp only [hg9, hg5', hk2, ho6, t6, pad_ces (v := m.ov.bk hh k0) (by omega), decide_true, coreS, Value.cells, Value.oneCell', Nat.reduceAdd, Nat.reduceSub, Nat.reduceMul, Nat.reduceLeDiff, Int.reduceEq, Nat.reduceEqDiff, H29Fs74]
        refine CallsH.mono (relaxed93 m gd hn16 b (m.ov.bk hh k0) hbl (fun q hq => by have := OV.bk_bd gd.ok hlt k0 (by omega) q hq; have : (k0 + 1) * m.ov.n ≤ 41 * 16 := Nat.mul_le_mul (by omega) (by omega); rw [OV.far_eq] at *; omega) h6 (hm.ext y6) ho6) ?_
        rintro r h7 ⟨rfl, x7⟩
        simp only [coreS, Value.cells, Value.oneCell', Nat.reduceAdd, Nat.reduceSub, Nat.reduceMul, Nat.reduceLeDiff, Int.reduceEq, Nat.reduceEqDiff, H29Fs74]
        refine st_hts (xs := pad (m.ov.bk hh (k0 + 1))) (cur := Eng.ints (pad (m.ov.bk hh k0))) (pad_length (by omega)) (by rw [Eng.ints_length, pad_length (by omega)]) (x7.get t6) fun h8 g8 u8 => ?_
        have y8 : Ext h h8 := u8.ext (y6.trans x7) (by omega)
        have O8 := OwnV.updO (O'.ext x7) u8 (x7.get t6) (fun cur hh => by cases hh)
        have g08 := u8.get (x7.get g06) (by omega)
        have d8 := pad_cell (v := m.ov.bk hh (k0 + 1)) (by omega) (i := hh) (by omega)
        have hs8 : h8.size = h7.size := u8.size
        have hs7 := x7.size
        by_cases hf : (m.ov.bk hh (k0 + 1)).getD hh 0 < OV.far
        · have hf2 : (((m.ov.bk hh (k0 + 1)).getD hh 0 : Nat) : Int) < 1048576 := by rw [OV.far_eq] at hf; omega
          have hsm := bk_small gd.ok hlt (by omega) hlt hf
          simp only [g8, d8, hf2, gd_none, Int.toNat_natCast, decide_true, coreS, Value.cells, Value.oneCell', Nat.reduceAdd, Nat.reduceSub, Nat.reduceMul, Nat.reduceLeDiff, Int.reduceEq, Nat.reduceEqDiff, H29Fs74]
          refine ⟨⟨by omega, by omega⟩, ?_⟩
          refine CallsH.mono (reaches94 m gd hn16 b i0 hh hi0 hlt h8 (hm.ext y8) (y8.get ho')) ?_
          rintro r h9 ⟨rfl, x9⟩
          cases hre : (m.ov.rch i0).getD hh false with
          | true =>
            have hX : m.ov.rtX i0 hh (k0 + 1) = [OV.byP ((m.ov.bk hh (k0 + 1)).getD hh 0) (k0 + 1)] := by rw [OV.rtX, if_pos]; rw [OV.isBk, hre, decide_eq_true hf]; rfl
            simp only [x9.get g8, d8, Int.toNat_natCast, decide_true, coreS, Value.cells, Value.oneCell', Nat.reduceAdd, Nat.reduceSub, Nat.reduceMul, Nat.reduceLeDiff, Int.reduceEq, Nat.reduceEqDiff, H29Fs74]
            refine ⟨⟨by omega, by omega⟩, ?_⟩
            have ek : ((k0 + 1 : Nat) : Int) = ((k0 + 1 : Nat) : Int) := rfl
            refine CallsH.mono (by71 ((m.ov.bk hh (k0 + 1)).getD hh 0) (k0 + 1) h9 (by omega) (by omega) (by omega)) ?_
            rintro r h10 ⟨rfl, x10⟩
            simp only [splice, coreS, Value.cells, Value.oneCell', Nat.reduceAdd, Nat.reduceSub, Nat.reduceMul, Nat.reduceLeDiff, Int.reduceEq, Nat.reduceEqDiff, H29Fs74]
            have hrow : Row (h10.push (.cells #[.int .i64 ((OV.byP ((m.ov.bk hh (k0 + 1)).getD hh 0) (k0 + 1)).1 : Int), .int .i64 ((OV.byP ((m.ov.bk hh (k0 + 1)).getD hh 0) (k0 + 1)).2 : Int)] 45)) (some ⟨h10.size, 0, none⟩) (ratsC [OV.byP ((m.ov.bk hh (k0 + 1)).getD hh 0) (k0 + 1)]) := Row.block (c := ratsC [OV.byP ((m.ov.bk hh (k0 + 1)).getD hh 0) (k0 + 1)]) push_new
            have O10 := (O8.ext (x9.trans x10)).ext ((Ext.refl h10).push (.cells #[.int .i64 ((OV.byP ((m.ov.bk hh (k0 + 1)).getD hh 0) (k0 + 1)).1 : Int), .int .i64 ((OV.byP ((m.ov.bk hh (k0 + 1)).getD hh 0) (k0 + 1)).2 : Int)] 45))
            have hs10 := (x9.trans x10).size
            have hmul : hh * m.ov.n ≤ 16 * 16 := Nat.mul_le_mul (by omega) (by omega)
            refine ⟨by omega, ?_⟩
            refine app123 (m0 := h.size + 1) (len := len') (m := 1) (by rfl) (by rfl) O10 (by rw [push_size]; omega) hrow rfl (by omega) fun a11 c11 h11 O11 A11 => ?_
            have hHs : m.ov.rtH i0 hh (k0 + 1) = m.ov.rtH i0 hh k0 ++ [OV.byP ((m.ov.bk hh (k0 + 1)).getD hh 0) (k0 + 1)] := by rw [OV.rtH_succ, hX]
            rw [List.append_assoc, ← hHs] at O11
            have t11 := App.othV A11 O10 (push_old (x10.get (x9.get g8))) (fun cur hh => by cases hh)
            have g11 : h11[h.size]? = some (.cells #[.int .i64 0, .int .i64 0] 45) := (A11.old _ (by rw [push_size]; omega) fun p hp => by have := (O10.lt hp).2; omega).trans (push_old (x10.get (x9.get g08)))
            have y11 : Ext h h11 := ⟨by have := A11.size; rw [push_size] at this; have := y8.size; omega, fun q hq => (A11.old q (by rw [push_size]; omega) fun p hp => by have := (O10.lt hp).2; omega).trans (((y8.trans (x9.trans x10)).push _).old q hq)⟩
            have hs11 := A11.size
            rw [push_size] at hs11
            simp only [coreS, Value.cells, Value.oneCell', Nat.reduceAdd, Nat.reduceSub, Nat.reduceMul, Nat.reduceLeDiff, Int.reduceEq, Nat.reduceEqDiff, H29Fs74]
            refine ⟨by rw [inK_i64]; omega, roundK_mk (by kernel_rfl) ⟨k0 + 1 + 1, len' + 1, c11, a11, by omega, by omega, rfl, rfl, ?_, O11, t11, g11, y11, by omega⟩ ?_⟩
            · rw [Nat.add_sub_cancel, hHs, List.length_append, List.length_append, hlen']; rfl
            · show m.casts.length + 1 - (((k0 + 1 : Nat) : Int) + 1).toNat < m.casts.length + 1 - ((k0 + 1 : Nat) : Int).toNat
              omega
          | false =>
            have hX : m.ov.rtX i0 hh (k0 + 1) = [] := by rw [OV.rtX, if_neg]; rw [OV.isBk, hre, Bool.and_false]; decide
            simp only [coreS, Value.cells, Value.oneCell', Nat.reduceAdd, Nat.reduceSub, Nat.reduceMul, Nat.reduceLeDiff, Int.reduceEq, Nat.reduceEqDiff, H29Fs74]
            refine ⟨by rw [inK_i64]; omega, roundK_mk (by kernel_rfl) ⟨k0 + 1 + 1, len', cap', a', by omega, by omega, rfl, rfl, ?_, ?_, x9.get g8, x9.get g08, y8.trans x9, by have := x9.size; omega⟩ ?_⟩
            · rw [Nat.add_sub_cancel, OV.rtH_succ, hX, List.append_nil, List.length_append]; exact hlen'
            · rw [Nat.add_sub_cancel, OV.rtH_succ, hX, List.append_nil]; exact O8.ext x9
            · show m.casts.length + 1 - (((k0 + 1 : Nat) : Int) + 1).toNat < m.casts.length + 1 - ((k0 + 1 : Nat) : Int).toNat
              omega
        · have hf2 : ¬ (((m.ov.bk hh (k0 + 1)).getD hh 0 : Nat) : Int) < 1048576 := by rw [OV.far_eq] at hf; omega
          have hX : m.ov.rtX i0 hh (k0 + 1) = [] := by rw [OV.rtX, if_neg]; rw [OV.isBk, decide_eq_false hf, Bool.false_and]; decide
          simp only [g8, d8, hf2, gd_none, Int.toNat_natCast, decide_false, coreS, Value.cells, Value.oneCell', Nat.reduceAdd, Nat.reduceSub, Nat.reduceMul, Nat.reduceLeDiff, Int.reduceEq, Nat.reduceEqDiff, H29Fs74]
          refine ⟨⟨by omega, by omega⟩, by rw [inK_i64]; omega, roundK_mk (by kernel_rfl) ⟨k0 + 1 + 1, len', cap', a', by omega, by omega, rfl, rfl, ?_, ?_, g8, g08, y8, by omega⟩ ?_⟩
          · rw [Nat.add_sub_cancel, OV.rtH_succ, hX, List.append_nil, List.length_append]; exact hlen'
          · rw [Nat.add_sub_cancel, OV.rtH_succ, hX, List.append_nil]; exact O8
          · show m.casts.length + 1 - (((k0 + 1 : Nat) : Int) + 1).toNat < m.casts.length + 1 - ((k0 + 1 : Nat) : Int).toNat
            omega
      · have hk2 : ¬ (k : Int) ≤ m.casts.length := by omega
        obtain rfl : k = m.casts.length + 1 := by omega
        rw [Nat.add_sub_cancel] at hlen' O'
        simp only [hg9, hg5', hk2, ho6, decide_false, coreS, Value.cells, Value.oneCell', Nat.reduceAdd, Nat.reduceSub, Nat.reduceMul, Nat.reduceLeDiff, Int.reduceEq, Nat.reduceEqDiff, H29Fs74]
        refine ⟨by rw [inK_i64]; omega, roundK_mk (by kernel_rfl) ⟨hh + 1, len', cap', a', by omega, rfl, rfl, by rw [OV.rtL_succ, List.length_append]; exact hlen', by rw [OV.rtL_succ]; exact O', g06, by have := y6.size; omega, y6⟩ ?_⟩
        show m.casts.length - ((hh : Int) + 1).toNat < m.casts.length - (hh : Int).toNat
        omega
  · have hlt2 : ¬ (hh : Int) < m.casts.length := by omega
    obtain rfl : hh = m.casts.length := by omega
    simp only [hg16, hg5, hlt2, decide_false, coreS, Value.cells, Value.oneCell', Nat.reduceAdd, Nat.reduceSub, Nat.reduceMul, Nat.reduceLeDiff, Int.reduceEq, Nat.reduceEqDiff, H29Fs74]
    have hne := OV.rtL_some gd.ok hi0 hlw
    rw [hnn] at hne
    have hsm := rt_small gd.ok (i := i0)
    rw [hnn] at hsm
    cases hl : m.ov.rtL i0 m.casts.length with
    | nil => exact absurd hl hne
    | cons x xs =>
      rw [hl] at hlen O hsm
      have hr : m.ov.rate i0 = OV.bestQ x xs := by rw [OV.rate, hnn, hl]
      have hcap := O.cap
      refine CallsH.mono (best95 a len cap x xs h1 O.row (by rw [hlen]; rfl) (by rw [hlen]; simp) hcap (by have : m.casts.length * m.ov.n ≤ 16 * 16 := Nat.mul_le_mul hn16 (by omega); rw [hl] at hlb; omega) hsm) ?_
      rintro r h9 ⟨rfl, x9⟩
      simp only [x9.get g0, splice, coreS, Value.cells, Value.oneCell', Nat.reduceAdd, Nat.reduceSub, Nat.reduceMul, Nat.reduceLeDiff, Int.reduceEq, Nat.reduceEqDiff, H29Fs74]
      refine stK_abs (x9.get g0) (by simp) fun h10 g10 u10 => ?_
      simp only [splice] at g10
      simp only [g10, splice, coreS, Value.cells, Value.oneCell', Nat.reduceAdd, Nat.reduceSub, Nat.reduceMul, Nat.reduceLeDiff, Int.reduceEq, Nat.reduceEqDiff, H29Fs74]
      exact ⟨by rw [hr], u10.ext (y1.trans x9) (Nat.le_refl _)⟩
def rtV (m : MV) (x : Int) : Rt := if roE m x = 0 then m.ov.rate x.toNat else (0, 0)
theorem rate37 (m : MV) (x : Int) (h : Eng.Heap) (hm : m.ok h) :
    CallsH Tryd.prog 37 #[m.val, .int .i64 x] h (fun v h' => v = .tuple #[ratV (rtV m x), .int .i64 (roE m x)] ∧ Ext h h') := by
  have key : ∀ {e : Int} {P : Prop}, roE m x = e → e ≠ 0 → P → Value.tuple #[.agg #[.int .i64 0, .int .i64 0], .int .i64 e] = .tuple #[ratV (rtV m x), .int .i64 (roE m x)] ∧ P := by
    rintro e P rfl he hP
    exact ⟨by rw [rtV, if_neg he]; rfl, hP⟩
  (refine CallsH_of_exec Tryd.func37 rfl bod37 ?_; simp only [Tryd.ntmps37, Tryd.results37, coreS, stK_some, splice, Value.cells, Value.oneCell', Nat.reduceAdd, Nat.reduceSub, Nat.reduceMul, Nat.reduceLeDiff, Int.reduceEq, Nat.reduceEqDiff, H29Fs37])
  have x0 : Ext h ((h.push (.cells #[.slice m.a m.casts.length m.ca, .slice m.b m.waits.length m.cb, .int .i64 m.lo, .int .i64 m.hi] 24)).push (.cells #[.int .i64 0, .int .i64 0] 45)) := ((Ext.refl h).push _).push _
  have hx3 : ((((h.push (.cells #[.slice m.a m.casts.length m.ca, .slice m.b m.waits.length m.cb, .int .i64 m.lo, .int .i64 m.hi] 24)).push (.cells #[.int .i64 0, .int .i64 0] 45)).push (.cells #[.int .i64 x] 3)))[h.size + 1 + 1]? = some (.cells #[.int .i64 x] 3) := by
    rw [Array.getElem?_push, if_pos (by simp)]
  refine CallsH.mono (open56 m _ 1 1 [x] _ (hm.ext (x0.push _)) (intsV_one hx3) (by omega)) ?_
  rintro v h1 ⟨x1, h1'⟩
  have y1 := (x0.push _).trans x1
  have b1 := x1.get (push_old (pn1 (h := h)))
  rcases h1' with ⟨e0, b, rfl, ho, hbs⟩ | ⟨e0, rfl⟩
  · obtain ⟨i, rfl, hi, h16, gd⟩ := opn_in e0
    have eE : roE m i = if 0 ≤ moV m i then 22 else 0 := by rw [roE, if_neg (by simpa using e0)]; rfl
    simp only [decide_true, Bool.not_true, splice, coreS, Value.cells, Value.oneCell', Nat.reduceAdd, Nat.reduceSub, Nat.reduceMul, Nat.reduceLeDiff, Int.reduceEq, Nat.reduceEqDiff, H29Fs37]
    refine CallsH.mono (most68 m gd h16 b i hi h1 (hm.ext y1) ho) ?_
    rintro v h2 ⟨rfl, x2⟩
    have y2 := y1.trans x2
    have b2 := x2.get b1
    by_cases hp : 0 ≤ moV m i
    · rw [if_pos hp] at eE
      simp only [hp, b2, decide_true, splice, coreS, Value.cells, Value.oneCell', Nat.reduceAdd, Nat.reduceSub, Nat.reduceMul, Nat.reduceLeDiff, Int.reduceEq, Nat.reduceEqDiff, H29Fs37]
      refine stK_abs b2 (by simp) fun h3 g3 u3 => ?_
      simp only [splice] at g3
      simp only [g3, splice, coreS, Value.cells, Value.oneCell', Nat.reduceAdd, Nat.reduceSub, Nat.reduceMul, Nat.reduceLeDiff, Int.reduceEq, Nat.reduceEqDiff, H29Fs37]
      exact key eE (by omega) (u3.ext y2 (by omega))
    · rw [if_neg hp] at eE
      simp only [hp, decide_false, coreS, Value.cells, Value.oneCell', Nat.reduceAdd, Nat.reduceSub, Nat.reduceMul, Nat.reduceLeDiff, Int.reduceEq, Nat.reduceEqDiff, H29Fs37]
      refine CallsH.mono (rate74 m gd h16 b i hi h2 (hm.ext y2) (x2.get ho) (by obtain ⟨z, hz⟩ := mo_neg gd hi hp m.casts.length; rw [hz]; rfl)) ?_
      rintro v h3 ⟨rfl, x3⟩
      simp only [x3.get b2, splice, coreS, Value.cells, Value.oneCell', Nat.reduceAdd, Nat.reduceSub, Nat.reduceMul, Nat.reduceLeDiff, Int.reduceEq, Nat.reduceEqDiff, H29Fs37]
      refine stK_abs (x3.get b2) (by simp) fun h4 g4 u4 => ?_
      simp only [splice] at g4
      simp only [g4, splice, coreS, Value.cells, Value.oneCell', Nat.reduceAdd, Nat.reduceSub, Nat.reduceMul, Nat.reduceLeDiff, Int.reduceEq, Nat.reduceEqDiff, H29Fs37]
      exact ⟨by rw [rtV, if_pos eE, eE]; rfl, u4.ext (y2.trans x3) (by omega)⟩
  · have eE : roE m x = opn m [x] := by rw [roE, if_pos e0]
    simp only [e0, b1, decide_false, Bool.not_false, splice, coreS, Value.cells, Value.oneCell', Nat.reduceAdd, Nat.reduceSub, Nat.reduceMul, Nat.reduceLeDiff, Int.reduceEq, Nat.reduceEqDiff, H29Fs37]
    refine stK_abs b1 (by simp) fun h3 g3 u3 => ?_
    simp only [splice] at g3
    simp only [g3, splice, coreS, Value.cells, Value.oneCell', Nat.reduceAdd, Nat.reduceSub, Nat.reduceMul, Nat.reduceLeDiff, Int.reduceEq, Nat.reduceEqDiff, H29Fs37]
    exact key eE e0 (u3.ext y1 (by omega))
end Go.Proofs.YtafemfjhflfdeaaDoor
end
section
namespace Go.Proofs.YtafemfjhflfdeaaDoor
open Go Go.Proofs Go.Eng Go.Run Tab
set_option maxRecDepth 100000
set_option linter.unusedSimpArgs false
set_option linter.unusedVariables false
set_option linter.defProp false
set_option maxHeartbeats 4000000
set_option linter.defProp false
def H22Fs41 := (And.intro (And.intro (And.intro (And.intro @agg24 @agg3) (And.intro @agg54 @agg84)) (And.intro (And.intro @fo84_0 @fo84_1) (And.intro @fps54_0 (And.intro @fps54_1 @inf24)))) (And.intro (And.intro (And.intro @inf3 @inf54) (And.intro @inf84 (And.intro @okf54 @sz24))) (And.intro (And.intro @sz3 @sz54) (And.intro @sz84 (And.intro @zero54 @zero84)))))
def H22Fs43 := (And.intro (And.intro (And.intro @agg24 @agg54) (And.intro @agg84 (And.intro @inf24 @inf54))) (And.intro (And.intro @inf84 @sz24) (And.intro @sz54 (And.intro @sz84 @zero84))))
def H22Fs77 := (And.intro (And.intro (And.intro (And.intro @agg2 @agg22) (And.intro @agg24 (And.intro @agg84 @fo24_0))) (And.intro (And.intro @fo54_0 @fo54_1) (And.intro @fps84_0 (And.intro @fps84_1 @inf2)))) (And.intro (And.intro (And.intro @inf22 @inf24) (And.intro @inf84 (And.intro @okf84 @sz2))) (And.intro (And.intro @sz22 @sz24) (And.intro @sz84 (And.intro @zero84 @Tryd.underlying22)))))
abbrev rgV (lo hi : Int) : Value := .agg #[.int .i64 lo, .int .i64 hi]
def rgE (m : MV) (lo hi : Int) : Int := if chk m ≠ 0 then chk m else if lo < 0 ∨ hi < lo ∨ (m.casts.length : Int) ≤ hi then 3 else 0
theorem opn_nil (m : MV) : opn m [] = chk m := by
  unfold opn
  split
  · rfl
  · rename_i h1; rw [Classical.not_not.1 h1]; rfl
theorem ranged77 (m : MV) (lo hi : Int) (h : Eng.Heap) (hm : m.ok h) :
    CallsH Tryd.prog 77 #[m.val, rgV lo hi] h (fun v h' => Ext h h' ∧ ((rgE m lo hi = 0 ∧ ∃ b, v = .tuple #[.pointer (some ⟨b, 0, none⟩), rgV lo hi, .int .i64 0] ∧ Oven h' b m) ∨ (rgE m lo hi ≠ 0 ∧ v = .tuple #[.pointer none, rgV 0 0, .int .i64 (rgE m lo hi)]))) := by
  have hcl := hm.cl
  (refine CallsH_of_exec Tryd.func77 rfl bod77 ?_; simp only [Tryd.ntmps77, Tryd.results77, coreS, stK_some, splice, Value.cells, Value.oneCell', Nat.reduceAdd, Nat.reduceSub, Nat.reduceMul, Nat.reduceLeDiff, Int.reduceEq, Nat.reduceEqDiff, H22Fs77])
  simp only [show ¬ (h.size = h.size + 1 + 1) by omega, if_false, coreS, Value.cells, Value.oneCell', Nat.reduceAdd, Nat.reduceSub, Nat.reduceMul, Nat.reduceLeDiff, Int.reduceEq, Nat.reduceEqDiff, H22Fs77]
  have x0 : Ext h (((h.push (.cells #[.slice m.a m.casts.length m.ca, .slice m.b m.waits.length m.cb, .int .i64 m.lo, .int .i64 m.hi] 24)).push (.cells #[.int .i64 lo, .int .i64 hi] 54)).push (.cells #[.int .i64 0, .int .i64 0] 84)) := (((Ext.refl h).push _).push _).push _
  refine CallsH.mono (open56 m none 0 0 [] _ (hm.ext x0) (IntsV.nil _) (by omega)) ?_
  rintro v h1 ⟨x1, h1'⟩
  have y1 := x0.trans x1
  have b0 := x1.get (push_old (push_old (push_new (h := h))))
  have b1 := x1.get (push_old (pn1 (h := h)))
  have b2 : h1[h.size + 2]? = some (.cells #[.int .i64 0, .int .i64 0] 84) := x1.get (by rw [Array.getElem?_push, if_pos (by simp)])
  rw [opn_nil] at h1'
  rcases h1' with ⟨e0, b, rfl, ho, hbs⟩ | ⟨e0, rfl⟩
  · have key : lo < 0 ∨ hi < lo ∨ (m.casts.length : Int) ≤ hi → rgE m lo hi = 3 := fun h => by rw [rgE, if_neg (by omega), if_pos h]
    by_cases l1 : lo < 0
    case pos =>
      simp only [e0, b1, b2, l1, gd_none, decide_true, Bool.not_true, splice, coreS, Value.cells, Value.oneCell', Nat.reduceAdd, Nat.reduceSub, Nat.reduceMul, Nat.reduceLeDiff, Int.reduceEq, Nat.reduceEqDiff, H22Fs77]
      refine stK_abs b2 (by simp) fun h3 g3 u3 => ?_
      simp only [splice] at g3
      simp only [g3, splice, coreS, Value.cells, Value.oneCell', Nat.reduceAdd, Nat.reduceSub, Nat.reduceMul, Nat.reduceLeDiff, Int.reduceEq, Nat.reduceEqDiff, H22Fs77]
      have := key (.inl l1)
      exact ⟨u3.ext y1 (by omega), .inr ⟨by omega, by rw [this]⟩⟩
    by_cases l2 : hi < lo
    case pos =>
      simp only [e0, b1, b2, l1, l2, gd_none, decide_true, decide_false, Bool.not_true, splice, coreS, Value.cells, Value.oneCell', Nat.reduceAdd, Nat.reduceSub, Nat.reduceMul, Nat.reduceLeDiff, Int.reduceEq, Nat.reduceEqDiff, H22Fs77]
      refine stK_abs b2 (by simp) fun h3 g3 u3 => ?_
      simp only [splice] at g3
      simp only [g3, splice, coreS, Value.cells, Value.oneCell', Nat.reduceAdd, Nat.reduceSub, Nat.reduceMul, Nat.reduceLeDiff, Int.reduceEq, Nat.reduceEqDiff, H22Fs77]
      have := key (.inr (.inl l2))
      exact ⟨u3.ext y1 (by omega), .inr ⟨by omega, by rw [this]⟩⟩
    by_cases l3 : (m.casts.length : Int) ≤ hi
    case pos =>
      simp only [e0, b0, b1, b2, l1, l2, l3, gd_none, decide_true, decide_false, Bool.not_true, splice, coreS, Value.cells, Value.oneCell', Nat.reduceAdd, Nat.reduceSub, Nat.reduceMul, Nat.reduceLeDiff, Int.reduceEq, Nat.reduceEqDiff, H22Fs77]
      refine stK_abs b2 (by simp) fun h3 g3 u3 => ?_
      simp only [splice] at g3
      simp only [g3, splice, coreS, Value.cells, Value.oneCell', Nat.reduceAdd, Nat.reduceSub, Nat.reduceMul, Nat.reduceLeDiff, Int.reduceEq, Nat.reduceEqDiff, H22Fs77]
      have := key (.inr (.inr l3))
      exact ⟨u3.ext y1 (by omega), .inr ⟨by omega, by rw [this]⟩⟩
    have hR : rgE m lo hi = 0 := by rw [rgE, if_neg (by omega), if_neg (by omega)]
    simp only [e0, b0, b1, b2, l1, l2, l3, gd_none, decide_true, decide_false, Bool.not_true, splice, coreS, Value.cells, Value.oneCell', Nat.reduceAdd, Nat.reduceSub, Nat.reduceMul, Nat.reduceLeDiff, Int.reduceEq, Nat.reduceEqDiff, H22Fs77]
    refine WP_draw (by kernel_rfl) sta_eq [(0, 0), (1, 0), (2, 0), (3, 0), (4, 0), (5, 0), (6, 0), (7, 1), (8, 0)] (by kernel_rfl) rfl (by kernel_rfl) ?_
    simp only [b1, b2, hvK_eq, splice, coreS, Value.cells, Value.oneCell', Nat.reduceAdd, Nat.reduceSub, Nat.reduceMul, Nat.reduceLeDiff, Int.reduceEq, Nat.reduceEqDiff, drawS, H22Fs77]
    refine stK_abs b2 (by simp) fun h3 g3 u3 => ?_
    simp only [splice] at g3
    simp only [hvK_eq, g3, splice, coreS, Value.cells, Value.oneCell', Nat.reduceAdd, Nat.reduceSub, Nat.reduceMul, Nat.reduceLeDiff, Int.reduceEq, Nat.reduceEqDiff, drawS, H22Fs77]
    exact ⟨u3.ext y1 (by omega), .inl ⟨hR, b, rfl, u3.get ho (by simp only [Array.size_push] at hbs; omega)⟩⟩
  · have e1 : rgE m lo hi = chk m := by rw [rgE, if_pos e0]
    simp only [e0, b2, decide_false, Bool.not_false, splice, coreS, Value.cells, Value.oneCell', Nat.reduceAdd, Nat.reduceSub, Nat.reduceMul, Nat.reduceLeDiff, Int.reduceEq, Nat.reduceEqDiff, H22Fs77]
    refine stK_abs b2 (by simp) fun h3 g3 u3 => ?_
    simp only [splice] at g3
    simp only [g3, splice, coreS, Value.cells, Value.oneCell', Nat.reduceAdd, Nat.reduceSub, Nat.reduceMul, Nat.reduceLeDiff, Int.reduceEq, Nat.reduceEqDiff, H22Fs77]
    exact ⟨u3.ext y1 (by omega), .inr ⟨by rw [e1]; exact e0, by rw [e1]⟩⟩
def raE (m : MV) (lo hi : Int) (s : ByteArray) : Int := if rgE m lo hi ≠ 0 then rgE m lo hi else if formE s ≠ 0 then formE s else if (m.ov.run (lo.toNat, hi.toNat) (bits s)).isNone then 22 else 0
def raV (m : MV) (lo hi : Int) (s : ByteArray) : OV.Sp := if raE m lo hi s = 0 then (m.ov.run (lo.toNat, hi.toNat) (bits s)).getD (0, 0) else (0, 0)
theorem rg_in {m : MV} {lo hi : Int} (h : rgE m lo hi = 0) : ∃ i j : Nat, lo = i ∧ hi = j ∧ i ≤ j ∧ j < m.casts.length ∧ m.casts.length ≤ 16 ∧ m.Good ∧ m.ov.In (i, j) := by
  unfold rgE at h
  split at h
  · rename_i h1; exact absurd h h1
  · rename_i h1
    have h1 := Classical.not_not.1 h1
    split at h
    · cases h
    · rename_i h2
      have gd := good_of h1
      have hn : m.ov.n = m.casts.length := rfl
      exact ⟨lo.toNat, hi.toNat, by omega, by omega, by omega, by omega, (chk_pos h1).1.2, gd, by show _ < _; omega, by show _ < _; omega⟩
theorem runAll41 (m : MV) (lo hi : Int) (s : ByteArray) (h : Eng.Heap) (hm : m.ok h) (hs : s.size ≤ 9223372036854775807) :
    CallsH Tryd.prog 41 #[m.val, rgV lo hi, .string s] h (fun v h' => v = .tuple #[spV (raV m lo hi s), .int .i64 (raE m lo hi s)] ∧ Ext h h') := by
  have key : ∀ {e : Int} {P : Prop}, raE m lo hi s = e → e ≠ 0 → P → Value.tuple #[.agg #[.int .i64 0, .int .i64 0], .int .i64 e] = .tuple #[spV (raV m lo hi s), .int .i64 (raE m lo hi s)] ∧ P := by
    rintro e P rfl he hP
    exact ⟨by rw [raV, if_neg he]; rfl, hP⟩
  (refine CallsH_of_exec Tryd.func41 rfl bod41 ?_; simp only [Tryd.ntmps41, Tryd.results41, coreS, stK_some, splice, Value.cells, Value.oneCell', Nat.reduceAdd, Nat.reduceSub, Nat.reduceMul, Nat.reduceLeDiff, Int.reduceEq, Nat.reduceEqDiff, H22Fs41])
  simp only [show ¬ (h.size = h.size + 1 + 1) by omega, if_false, coreS, Value.cells, Value.oneCell', Nat.reduceAdd, Nat.reduceSub, Nat.reduceMul, Nat.reduceLeDiff, Int.reduceEq, Nat.reduceEqDiff, H22Fs41]
  have x0 : Ext h (((h.push (.cells #[.slice m.a m.casts.length m.ca, .slice m.b m.waits.length m.cb, .int .i64 m.lo, .int .i64 m.hi] 24)).push (.cells #[.int .i64 lo, .int .i64 hi] 54)).push (.cells #[.int .i64 0, .int .i64 0] 54)) := (((Ext.refl h).push _).push _).push _
  refine CallsH.mono (ranged77 m lo hi _ (hm.ext x0)) ?_
  rintro v h1 ⟨x1, h1'⟩
  have y1 := x0.trans x1
  have b2 : h1[h.size + 2]? = some (.cells #[.int .i64 0, .int .i64 0] 54) := x1.get (by rw [Array.getElem?_push, if_pos (by simp)])
  have hz := lt_of_get b2
  have hz2 := y1.size
  rcases h1' with ⟨e0, b, rfl, ho⟩ | ⟨e0, rfl⟩
  · obtain ⟨i, j, rfl, rfl, hij, hj, h16, gd, hin⟩ := rg_in e0
    simp only [splice, coreS, Value.cells, Value.oneCell', Nat.reduceAdd, Nat.reduceSub, Nat.reduceMul, Nat.reduceLeDiff, Int.reduceEq, Nat.reduceEqDiff, H22Fs41]
    refine stK_abs (push_new (h := h1) (o := .cells #[.int .i64 0, .int .i64 0] 84)) (by simp) fun h2 g2 u2 => ?_
    simp only [splice] at g2
    have k2 := u2.get (push_old b2) (by omega)
    have ko := u2.get (push_old ho) (by have := lt_of_get ho; omega)
    have y2 : Ext h h2 := u2.ext (y1.push _) hz2
    have z2 := lt_of_get k2
    have hs2 : h2.size = h1.size + 1 := by rw [u2.size]; simp
    have e1 : raE m i j s = if formE s ≠ 0 then formE s else if (m.ov.run (i, j) (bits s)).isNone then 22 else 0 := by rw [raE, if_neg (by simpa using e0), Int.toNat_natCast, Int.toNat_natCast]
    simp only [decide_true, Bool.not_true, coreS, Value.cells, Value.oneCell', Nat.reduceAdd, Nat.reduceSub, Nat.reduceMul, Nat.reduceLeDiff, Int.reduceEq, Nat.reduceEqDiff, H22Fs41]
    refine CallsH.mono (letters57 s h2 hs) ?_
    rintro v h3 ⟨rfl, x3⟩
    have y3 := y2.trans x3
    have k3 := x3.get k2
    by_cases hf : formE s = 0
    · obtain ⟨hs5, hl⟩ := form_ok hf
      rw [if_neg (by simpa using hf)] at e1
      simp only [hf, x3.get g2, decide_true, Bool.not_true, coreS, Value.cells, Value.oneCell', Nat.reduceAdd, Nat.reduceSub, Nat.reduceMul, Nat.reduceLeDiff, Int.reduceEq, Nat.reduceEqDiff, H22Fs41]
      refine CallsH.mono (run58 m b (i, j) s h3 gd (hm.ext y3) (x3.get ko) hin hl) ?_
      rintro v h4 ⟨rfl, x4⟩
      have y4 := y3.trans x4
      have k4 := x4.get k3
      have z4 := lt_of_get k4
      have zz := y4.size
      cases hr : m.ov.run (i, j) (bits s) with
      | none =>
        rw [hr] at e1
        simp only [runV, k4, splice, coreS, Value.cells, Value.oneCell', Nat.reduceAdd, Nat.reduceSub, Nat.reduceMul, Nat.reduceLeDiff, Int.reduceEq, Nat.reduceEqDiff, H22Fs41]
        refine stK_abs (push_new (h := h4) (o := .cells #[.int .i64 0, .int .i64 0] 84)) (by simp) fun h5 g5 u5 => ?_
        simp only [splice] at g5
        have k5 := u5.get (push_old k4) (by omega)
        simp only [k5, Bool.not_false, splice, coreS, Value.cells, Value.oneCell', Nat.reduceAdd, Nat.reduceSub, Nat.reduceMul, Nat.reduceLeDiff, Int.reduceEq, Nat.reduceEqDiff, H22Fs41]
        refine stK_abs k5 (by simp) fun h6 g6 u6 => ?_
        simp only [splice] at g6
        simp only [g6, splice, coreS, Value.cells, Value.oneCell', Nat.reduceAdd, Nat.reduceSub, Nat.reduceMul, Nat.reduceLeDiff, Int.reduceEq, Nat.reduceEqDiff, H22Fs41]
        exact key e1 (by omega) (u6.ext (u5.ext (y4.push _) zz) (by omega))
      | some t =>
        rw [hr] at e1
        have hE : raE m i j s = 0 := e1
        have hV : raV m i j s = t := by rw [raV, if_pos hE, Int.toNat_natCast, Int.toNat_natCast, hr]; rfl
        simp only [runV, k4, splice, coreS, Value.cells, Value.oneCell', Nat.reduceAdd, Nat.reduceSub, Nat.reduceMul, Nat.reduceLeDiff, Int.reduceEq, Nat.reduceEqDiff, H22Fs41]
        refine stK_abs (push_new (h := h4) (o := .cells #[.int .i64 0, .int .i64 0] 84)) (by simp) fun h5 g5 u5 => ?_
        simp only [splice] at g5
        have k5 := u5.get (push_old k4) (by omega)
        simp only [g5, k5, Bool.not_true, splice, coreS, Value.cells, Value.oneCell', Nat.reduceAdd, Nat.reduceSub, Nat.reduceMul, Nat.reduceLeDiff, Int.reduceEq, Nat.reduceEqDiff, H22Fs41]
        refine stK_abs k5 (by simp) fun h6 g6 u6 => ?_
        simp only [splice] at g6
        simp only [g6, splice, coreS, Value.cells, Value.oneCell', Nat.reduceAdd, Nat.reduceSub, Nat.reduceMul, Nat.reduceLeDiff, Int.reduceEq, Nat.reduceEqDiff, H22Fs41]
        exact ⟨by rw [hE, hV], u6.ext (u5.ext (y4.push _) zz) (by omega)⟩
    · simp only [hf, k3, decide_false, Bool.not_false, splice, coreS, Value.cells, Value.oneCell', Nat.reduceAdd, Nat.reduceSub, Nat.reduceMul, Nat.reduceLeDiff, Int.reduceEq, Nat.reduceEqDiff, H22Fs41]
      refine stK_abs k3 (by simp) fun h5 g5 u5 => ?_
      simp only [splice] at g5
      simp only [g5, splice, coreS, Value.cells, Value.oneCell', Nat.reduceAdd, Nat.reduceSub, Nat.reduceMul, Nat.reduceLeDiff, Int.reduceEq, Nat.reduceEqDiff, H22Fs41]
      exact key (by rw [e1, if_pos hf]) hf (u5.ext y3 (by omega))
  · simp only [e0, b2, decide_false, Bool.not_false, splice, coreS, Value.cells, Value.oneCell', Nat.reduceAdd, Nat.reduceSub, Nat.reduceMul, Nat.reduceLeDiff, Int.reduceEq, Nat.reduceEqDiff, H22Fs41]
    refine stK_abs (push_new (h := h1) (o := .cells #[.int .i64 0, .int .i64 0] 84)) (by simp) fun h2 g2 u2 => ?_
    simp only [splice] at g2
    have k2 := u2.get (push_old b2) (by omega)
    simp only [e0, k2, decide_false, Bool.not_false, splice, coreS, Value.cells, Value.oneCell', Nat.reduceAdd, Nat.reduceSub, Nat.reduceMul, Nat.reduceLeDiff, Int.reduceEq, Nat.reduceEqDiff, H22Fs41]
    refine stK_abs k2 (by simp) fun h5 g5 u5 => ?_
    simp only [splice] at g5
    simp only [g5, splice, coreS, Value.cells, Value.oneCell', Nat.reduceAdd, Nat.reduceSub, Nat.reduceMul, Nat.reduceLeDiff, Int.reduceEq, Nat.reduceEqDiff, H22Fs41]
    exact key (by rw [raE, if_pos e0]) e0 (u5.ext (u2.ext (y1.push _) hz2) (by omega))
def suE (m : MV) (lo hi k : Int) : Int := if rgE m lo hi ≠ 0 then rgE m lo hi else fromE m (lo.toNat, hi.toNat) k
def suP (m : MV) (lo hi k : Int) : ByteArray := if suE m lo hi k = 0 then planS (m.ov.pl k.toNat (lo.toNat, hi.toNat)) else ⟨#[]⟩
theorem surely43 (m : MV) (lo hi k : Int) (h : Eng.Heap) (hm : m.ok h) :
    CallsH Tryd.prog 43 #[m.val, rgV lo hi, .int .i64 k] h (fun v h' => v = .tuple #[.string (suP m lo hi k), .int .i64 (suE m lo hi k)] ∧ Ext h h') := by
  (refine CallsH_of_exec Tryd.func43 rfl bod43 ?_; simp only [Tryd.ntmps43, Tryd.results43, coreS, stK_some, splice, Value.cells, Value.oneCell', Nat.reduceAdd, Nat.reduceSub, Nat.reduceMul, Nat.reduceLeDiff, Int.reduceEq, Nat.reduceEqDiff, H22Fs43])
  have x0 : Ext h ((h.push (.cells #[.slice m.a m.casts.length m.ca, .slice m.b m.waits.length m.cb, .int .i64 m.lo, .int .i64 m.hi] 24)).push (.cells #[.int .i64 lo, .int .i64 hi] 54)) := ((Ext.refl h).push _).push _
  refine CallsH.mono (ranged77 m lo hi _ (hm.ext x0)) ?_
  rintro v h1 ⟨x1, h1'⟩
  have y1 := x0.trans x1
  have hz2 := y1.size
  rcases h1' with ⟨e0, b, rfl, ho⟩ | ⟨e0, rfl⟩
  · obtain ⟨i, j, rfl, rfl, hij, hj, h16, gd, hin⟩ := rg_in e0
    simp only [splice, coreS, Value.cells, Value.oneCell', Nat.reduceAdd, Nat.reduceSub, Nat.reduceMul, Nat.reduceLeDiff, Int.reduceEq, Nat.reduceEqDiff, H22Fs43]
    refine stK_abs (push_new (h := h1) (o := .cells #[.int .i64 0, .int .i64 0] 84)) (by simp) fun h2 g2 u2 => ?_
    simp only [splice] at g2
    have ko := u2.get (push_old ho) (by have := lt_of_get ho; omega)
    have y2 : Ext h h2 := u2.ext (y1.push _) hz2
    have e1 : suE m i j k = fromE m (i, j) k := by rw [suE, if_neg (by simpa using e0)]; rfl
    have e2 : suP m i j k = fromP m (i, j) k := by rw [suP, fromP, e1]; rfl
    rw [e1, e2]
    simp only [g2, decide_true, Bool.not_true, coreS, Value.cells, Value.oneCell', Nat.reduceAdd, Nat.reduceSub, Nat.reduceMul, Nat.reduceLeDiff, Int.reduceEq, Nat.reduceEqDiff, H22Fs43]
    refine CallsH.mono (planned66 m gd h16 b (i, j) k h2 hin (hm.ext y2) ko) ?_
    rintro v h3 ⟨rfl, x3⟩
    simp only [coreS, Value.cells, Value.oneCell', Nat.reduceAdd, Nat.reduceSub, Nat.reduceMul, Nat.reduceLeDiff, Int.reduceEq, Nat.reduceEqDiff, H22Fs43]
    exact y2.trans x3
  · simp only [splice, coreS, Value.cells, Value.oneCell', Nat.reduceAdd, Nat.reduceSub, Nat.reduceMul, Nat.reduceLeDiff, Int.reduceEq, Nat.reduceEqDiff, H22Fs43]
    refine stK_abs (push_new (h := h1) (o := .cells #[.int .i64 0, .int .i64 0] 84)) (by simp) fun h2 g2 u2 => ?_
    simp only [e0, decide_false, Bool.not_false, coreS, Value.cells, Value.oneCell', Nat.reduceAdd, Nat.reduceSub, Nat.reduceMul, Nat.reduceLeDiff, Int.reduceEq, Nat.reduceEqDiff, H22Fs43]
    have e1 : suE m lo hi k = rgE m lo hi := by rw [suE, if_pos e0]
    exact ⟨by rw [suP, e1, if_neg e0], u2.ext (y1.push _) hz2⟩
end Go.Proofs.YtafemfjhflfdeaaDoor
end
section
namespace Go.Proofs.YtafemfjhflfdeaaDoor
set_option linter.unusedSimpArgs false
set_option linter.unusedVariables false
set_option linter.defProp false
set_option maxRecDepth 100000
namespace OV
variable {o : OV}
theorem lw_table (ok : o.ok) (T : List (List (Option Nat))) (K : Nat) (h0 : ∀ i, i < o.n → (T.getD 0 []).getD i none = some 0)
    (hs : ∀ k, k < K → ∀ i, i < o.n → (T.getD (k + 1) []).getD i none = better (if o.can (i, i) then (T.getD k []).getD (o.c i) none else none) (if o.w i = i then none else ((T.getD (k + 1) []).getD (o.w i) none).map (· + 1))) :
    ∀ k, k ≤ K → ∀ i, i < o.n → o.lw k (i, i) = (T.getD k []).getD i none := by
  intro k
  induction k with
  | zero => intro _ i hi; rw [h0 i hi, lw_zero]
  | succ k ihk =>
    intro hk i
    induction i using Nat.strongRecOn with
    | _ i ih =>
      intro hi
      have hwi := ok.wg i hi
      rw [lw_succ ok ⟨hi, hi⟩, hs k (by omega) i hi]
      have e1 : (if o.can (i, i) = true then o.lw k (o.C (i, i)) else none) = (if o.can (i, i) = true then (T.getD k []).getD (o.c i) none else none) := by
        rw [show o.C (i, i) = (o.c i, o.c i) from rfl, ihk (by omega) (o.c i) (ok.cl i hi)]
      rw [e1]
      by_cases hw : o.w i = i
      · rw [if_pos hw, if_pos (show o.W (i, i) = (i, i) from Prod.ext hw hw)]
      · rw [if_neg hw, if_neg (fun h => hw (congrArg Prod.fst h)), show o.W (i, i) = (o.w i, o.w i) from rfl, ih (o.w i) (by omega) (by omega)]
theorem bk_table (T : List (List (List Nat))) (h0 : ∀ j, j < o.n → o.cool (o.st j) = (T.getD j []).getD 0 [])
    (hs : ∀ j, j < o.n → ∀ k, k < o.n → o.cool (o.cst ((T.getD j []).getD k [])) = (T.getD j []).getD (k + 1) []) :
    ∀ j, j < o.n → ∀ k, k ≤ o.n → o.bk j k = (T.getD j []).getD k [] := by
  intro j hj k
  induction k with
  | zero => intro _; exact h0 j hj
  | succ k ih => intro hk; rw [bk, ih (by omega), hs j hj k (by omega)]
theorem rch_table (i : Nat) (T : List (List Bool)) (h0 : o.rone i = T.getD 0 []) (hs : ∀ k, k < o.n → o.rpass (T.getD k []) = T.getD (k + 1) []) : o.rch i = T.getD o.n [] := by
  have key : ∀ k, k ≤ o.n → o.rit (o.rone i) k = T.getD k [] := by
    intro k
    induction k with
    | zero => intro _; exact h0
    | succ k ih => intro hk; rw [rit, ih (by omega), hs k (by omega)]
  exact key o.n (Nat.le_refl _)
def rtXT (T : List (List (List Nat))) (R : List Bool) (h k : Nat) : List (Nat × Nat) := if decide ((((T.getD h []).getD k []).getD h 0) < far) && R.getD h false then [byP (((T.getD h []).getD k []).getD h 0) k] else []
def rateT (n : Nat) (T : List (List (List Nat))) (R : List Bool) : Nat × Nat := match (List.range n).flatMap (fun h => (List.range n).flatMap fun j => rtXT T R h (j + 1)) with
  | [] => (0, 0)
  | x :: l => bestQ x l
theorem flat_congr {α β : Type} {f g : α → List β} : ∀ {l : List α}, (∀ x ∈ l, f x = g x) → l.flatMap f = l.flatMap g
  | [], _ => rfl
  | x :: l, H => by rw [List.flatMap_cons, List.flatMap_cons, H x List.mem_cons_self, flat_congr fun y hy => H y (List.mem_cons_of_mem _ hy)]
theorem rate_table {i : Nat} {T : List (List (List Nat))} {R : List Bool} (hT : ∀ j, j < o.n → ∀ k, k ≤ o.n → o.bk j k = (T.getD j []).getD k []) (hR : o.rch i = R) : o.rate i = rateT o.n T R := by
  have e : o.rtL i o.n = (List.range o.n).flatMap (fun h => (List.range o.n).flatMap fun j => rtXT T R h (j + 1)) := by
    rw [rtL]
    refine flat_congr fun h hh => ?_
    rw [rtH]
    refine flat_congr fun j hj => ?_
    have hh := List.mem_range.1 hh
    have hj := List.mem_range.1 hj
    rw [rtX, isBk, hT h hh (j + 1) (by omega), hR, rtXT]
  rw [rate, e]
  rfl
def good : OV := ⟨8, fun i => (([2, 3, 4, 5, 6, 7, 7, 7] : List Int).getD i 0).toNat, fun i => (([0, 0, 1, 1, 2, 3, 4, 4] : List Int).getD i 0).toNat, 2, 5⟩
def stuck : OV := ⟨8, fun i => (([2, 3, 4, 5, 6, 7, 7, 7] : List Int).getD i 0).toNat, fun i => (([0, 0, 1, 1, 2, 3, 6, 6] : List Int).getD i 0).toNat, 4, 5⟩
def goodT : List (List (Option Nat)) := [[some 0, some 0, some 0, some 0, some 0, some 0, some 0, some 0],
  [none, none, some 0, some 0, some 0, some 0, some 1, some 1],
  [none, none, some 0, some 0, some 1, some 1, some 2, some 2],
  [none, none, some 1, some 1, some 2, some 2, some 3, some 3],
  [none, none, some 2, some 2, some 3, some 3, some 4, some 4],
  [none, none, some 3, some 3, some 4, some 4, some 5, some 5],
  [none, none, some 4, some 4, some 5, some 5, some 6, some 6],
  [none, none, some 5, some 5, some 6, some 6, some 7, some 7],
  [none, none, some 6, some 6, some 7, some 7, some 8, some 8],
  [none, none, some 7, some 7, some 8, some 8, some 9, some 9]]
def stuckT : List (List (Option Nat)) := [[some 0, some 0, some 0, some 0, some 0, some 0, some 0, some 0],
  [none, none, none, none, some 0, some 0, none, none],
  [none, none, none, none, none, none, none, none],
  [none, none, none, none, none, none, none, none],
  [none, none, none, none, none, none, none, none],
  [none, none, none, none, none, none, none, none],
  [none, none, none, none, none, none, none, none],
  [none, none, none, none, none, none, none, none],
  [none, none, none, none, none, none, none, none],
  [none, none, none, none, none, none, none, none]]
def goodB : List (List (List Nat)) := [[[0, 1048576, 1048576, 1048576, 1048576, 1048576, 1048576, 1048576], [1048576, 1048576, 1048576, 1048576, 1048576, 1048576, 1048576, 1048576], [1048576, 1048576, 1048576, 1048576, 1048576, 1048576, 1048576, 1048576], [1048576, 1048576, 1048576, 1048576, 1048576, 1048576, 1048576, 1048576], [1048576, 1048576, 1048576, 1048576, 1048576, 1048576, 1048576, 1048576], [1048576, 1048576, 1048576, 1048576, 1048576, 1048576, 1048576, 1048576], [1048576, 1048576, 1048576, 1048576, 1048576, 1048576, 1048576, 1048576], [1048576, 1048576, 1048576, 1048576, 1048576, 1048576, 1048576, 1048576], [1048576, 1048576, 1048576, 1048576, 1048576, 1048576, 1048576, 1048576]],
  [[1, 0, 1048576, 1048576, 1048576, 1048576, 1048576, 1048576], [1048576, 1048576, 1048576, 1048576, 1048576, 1048576, 1048576, 1048576], [1048576, 1048576, 1048576, 1048576, 1048576, 1048576, 1048576, 1048576], [1048576, 1048576, 1048576, 1048576, 1048576, 1048576, 1048576, 1048576], [1048576, 1048576, 1048576, 1048576, 1048576, 1048576, 1048576, 1048576], [1048576, 1048576, 1048576, 1048576, 1048576, 1048576, 1048576, 1048576], [1048576, 1048576, 1048576, 1048576, 1048576, 1048576, 1048576, 1048576], [1048576, 1048576, 1048576, 1048576, 1048576, 1048576, 1048576, 1048576], [1048576, 1048576, 1048576, 1048576, 1048576, 1048576, 1048576, 1048576]],
  [[2, 1, 0, 1048576, 1048576, 1048576, 1048576, 1048576], [3, 2, 1, 1048576, 0, 1048576, 1048576, 1048576], [4, 3, 2, 1048576, 1, 1048576, 0, 1048576], [5, 4, 3, 1048576, 2, 1048576, 1, 1048576], [6, 5, 4, 1048576, 3, 1048576, 2, 1048576], [7, 6, 5, 1048576, 4, 1048576, 3, 1048576], [8, 7, 6, 1048576, 5, 1048576, 4, 1048576], [9, 8, 7, 1048576, 6, 1048576, 5, 1048576], [10, 9, 8, 1048576, 7, 1048576, 6, 1048576]],
  [[2, 1, 1048576, 0, 1048576, 1048576, 1048576, 1048576], [3, 2, 1048576, 1, 1048576, 0, 1048576, 1048576], [4, 3, 2, 2, 1, 1, 1048576, 0], [5, 4, 3, 3, 2, 2, 1, 1], [6, 5, 4, 4, 3, 3, 2, 2], [7, 6, 5, 5, 4, 4, 3, 3], [8, 7, 6, 6, 5, 5, 4, 4], [9, 8, 7, 7, 6, 6, 5, 5], [10, 9, 8, 8, 7, 7, 6, 6]],
  [[3, 2, 1, 1048576, 0, 1048576, 1048576, 1048576], [4, 3, 2, 1048576, 1, 1048576, 0, 1048576], [5, 4, 3, 1048576, 2, 1048576, 1, 1048576], [6, 5, 4, 1048576, 3, 1048576, 2, 1048576], [7, 6, 5, 1048576, 4, 1048576, 3, 1048576], [8, 7, 6, 1048576, 5, 1048576, 4, 1048576], [9, 8, 7, 1048576, 6, 1048576, 5, 1048576], [10, 9, 8, 1048576, 7, 1048576, 6, 1048576], [11, 10, 9, 1048576, 8, 1048576, 7, 1048576]],
  [[3, 2, 1048576, 1, 1048576, 0, 1048576, 1048576], [4, 3, 2, 2, 1, 1, 1048576, 0], [5, 4, 3, 3, 2, 2, 1, 1], [6, 5, 4, 4, 3, 3, 2, 2], [7, 6, 5, 5, 4, 4, 3, 3], [8, 7, 6, 6, 5, 5, 4, 4], [9, 8, 7, 7, 6, 6, 5, 5], [10, 9, 8, 8, 7, 7, 6, 6], [11, 10, 9, 9, 8, 8, 7, 7]],
  [[4, 3, 2, 1048576, 1, 1048576, 0, 1048576], [5, 4, 3, 1048576, 2, 1048576, 1, 1048576], [6, 5, 4, 1048576, 3, 1048576, 2, 1048576], [7, 6, 5, 1048576, 4, 1048576, 3, 1048576], [8, 7, 6, 1048576, 5, 1048576, 4, 1048576], [9, 8, 7, 1048576, 6, 1048576, 5, 1048576], [10, 9, 8, 1048576, 7, 1048576, 6, 1048576], [11, 10, 9, 1048576, 8, 1048576, 7, 1048576], [12, 11, 10, 1048576, 9, 1048576, 8, 1048576]],
  [[4, 3, 2, 1048576, 1, 1048576, 1048576, 0], [5, 4, 3, 1048576, 2, 1048576, 1, 1048576], [6, 5, 4, 1048576, 3, 1048576, 2, 1048576], [7, 6, 5, 1048576, 4, 1048576, 3, 1048576], [8, 7, 6, 1048576, 5, 1048576, 4, 1048576], [9, 8, 7, 1048576, 6, 1048576, 5, 1048576], [10, 9, 8, 1048576, 7, 1048576, 6, 1048576], [11, 10, 9, 1048576, 8, 1048576, 7, 1048576], [12, 11, 10, 1048576, 9, 1048576, 8, 1048576]]]
def goodR : List (List Bool) := [[false, false, false, true, false, false, false, false],
  [false, true, false, true, true, true, false, true],
  [true, true, true, true, true, true, true, true],
  [true, true, true, true, true, true, true, true],
  [true, true, true, true, true, true, true, true],
  [true, true, true, true, true, true, true, true],
  [true, true, true, true, true, true, true, true],
  [true, true, true, true, true, true, true, true],
  [true, true, true, true, true, true, true, true]]
theorem good_rate : good.rate 3 = (1, 1) := by
  rw [rate_table (bk_table goodB (by decide +kernel) (by decide +kernel)) (rch_table 3 goodR (by decide +kernel) (by decide +kernel))]
  decide +kernel
theorem good_lw (ok : good.ok) : ∀ k, k ≤ 9 → ∀ i, i < 8 → good.lw k (i, i) = (goodT.getD k []).getD i none := lw_table ok goodT 9 (by decide +kernel) (by decide +kernel)
theorem stuck_lw (ok : stuck.ok) : ∀ k, k ≤ 9 → ∀ i, i < 8 → stuck.lw k (i, i) = (stuckT.getD k []).getD i none := lw_table ok stuckT 9 (by decide +kernel) (by decide +kernel)
def mostT (t : Nat → Bool) : Nat → Nat → Option Nat
  | 0, _ => none
  | f + 1, k => if t (k + 1) then mostT t f (k + 1) else some k
theorem mostF_T {s : Sp} {t : Nat → Bool} : ∀ (f k : Nat), (∀ j, j ≤ k + f → (o.lw j s).isSome = t j) → o.mostF s f k = mostT t f k
  | 0, _, _ => rfl
  | f + 1, k, H => by
    have h1 := H (k + 1) (by omega)
    rw [mostF, mostT, mostF_T f (k + 1) fun j hj => H j (by omega)]
    cases hx : o.lw (k + 1) s <;> rw [hx] at h1 <;> simp [← h1]
theorem good_most (ok : good.ok) {i : Nat} (hi : i < 8) : good.most i = mostT (fun j => ((goodT.getD j []).getD i none).isSome) 9 0 :=
  mostF_T 9 0 fun j hj => by rw [good_lw ok j (by omega) i hi]
theorem stuck_most (ok : stuck.ok) {i : Nat} (hi : i < 8) : stuck.most i = mostT (fun j => ((stuckT.getD j []).getD i none).isSome) 9 0 :=
  mostF_T 9 0 fun j hj => by rw [stuck_lw ok j (by omega) i hi]
end OV
end Go.Proofs.YtafemfjhflfdeaaDoor
end
section
namespace Go.Proofs.YtafemfjhflfdeaaDoor
open Go Go.Proofs Go.Eng Go.Run Tab
set_option maxRecDepth 100000
set_option linter.unusedSimpArgs false
set_option linter.unusedVariables false
set_option linter.defProp false
set_option maxHeartbeats 4000000
set_option linter.defProp false
def H30Fs49 := (And.intro (And.intro @agg54 (And.intro @fps54_0 @fps54_1)) (And.intro (And.intro @inf54 @okf54) (And.intro @sz54 @zero54)))
def H30Fs52 := (And.intro (And.intro (And.intro @agg24 @by3) (And.intro @inf24 @inf3)) (And.intro (And.intro @sz24 @sz3) (And.intro @zero24 (And.intro @zero3 @Tryd.underlying22))))
def H30Fs53 := (And.intro (And.intro (And.intro @agg24 @by3) (And.intro @inf24 @inf3)) (And.intro (And.intro @sz24 @sz3) (And.intro @zero24 (And.intro @zero3 @Tryd.underlying22))))
def H30Fs55 := (And.intro (And.intro @agg45 (And.intro @fps45_0 @fps45_1)) (And.intro (And.intro @inf45 @okf45) (And.intro @sz45 @zero45)))
def H30Fs79 := (And.intro (And.intro (And.intro (And.intro @agg22 @agg24) (And.intro @by3 @fo24_0)) (And.intro (And.intro @fo24_1 @fps24_2) (And.intro @fps24_3 @inf22))) (And.intro (And.intro (And.intro @inf24 @inf3) (And.intro @okf24 @sz22)) (And.intro (And.intro @sz24 @sz3) (And.intro @zero24 @Tryd.underlying22))))
theorem of54 (v : Value) (h : Eng.Heap) : CallsH Tryd.prog 54 #[v] h (fun r h' => r = v ∧ h' = h) := by
  (refine CallsH_of_exec Tryd.func54 rfl bod54 ?_; simp only [Tryd.ntmps54, Tryd.results54, coreS, stK_some, splice, Value.cells, Value.oneCell', Nat.reduceAdd, Nat.reduceSub, Nat.reduceMul, Nat.reduceLeDiff, Int.reduceEq, Nat.reduceEqDiff])
theorem by55 (x y : Int) (h : Eng.Heap) : CallsH Tryd.prog 55 #[.int .i64 x, .int .i64 y] h (fun r h' => r = .agg #[.int .i64 x, .int .i64 y] ∧ Ext h h') := by
  (refine CallsH_of_exec Tryd.func55 rfl bod55 ?_; simp only [Tryd.ntmps55, Tryd.results55, coreS, stK_some, splice, Value.cells, Value.oneCell', Nat.reduceAdd, Nat.reduceSub, Nat.reduceMul, Nat.reduceLeDiff, Int.reduceEq, Nat.reduceEqDiff, H30Fs55])
  exact (Ext.refl h).push _
theorem to49 (x y : Int) (h : Eng.Heap) : CallsH Tryd.prog 49 #[.int .i64 x, .int .i64 y] h (fun r h' => r = rgV x y ∧ Ext h h') := by
  (refine CallsH_of_exec Tryd.func49 rfl bod49 ?_; simp only [Tryd.ntmps49, Tryd.results49, coreS, stK_some, splice, Value.cells, Value.oneCell', Nat.reduceAdd, Nat.reduceSub, Nat.reduceMul, Nat.reduceLeDiff, Int.reduceEq, Nat.reduceEqDiff, H30Fs49])
  exact (Ext.refl h).push _
theorem mould79 (lo hi : Int) (g : Nat) (h : Eng.Heap) :
    CallsH Tryd.prog 79 #[.int .i64 lo, .int .i64 hi, .int .i64 8, .slice (some ⟨g, 0, none⟩) 16 16] h (fun r h' => r = .agg #[.slice (some ⟨g, 0, none⟩) 8 16, .slice (some ⟨g, 8, none⟩) 8 8, .int .i64 lo, .int .i64 hi] ∧ Ext h h') := by
  (refine CallsH_of_exec Tryd.func79 rfl bod79 ?_; simp only [Tryd.ntmps79, Tryd.results79, coreS, stK_some, splice, Value.cells, Value.oneCell', Nat.reduceAdd, Nat.reduceSub, Nat.reduceMul, Nat.reduceLeDiff, Int.reduceEq, Nat.reduceEqDiff, H30Fs79])
  obtain ⟨H2, hH2⟩ : ∃ H2, H2 = updH ((h.push (.cells #[.slice none 0 0, .slice none 0 0, .int .i64 0, .int .i64 0] 24)).push (.cells #[.slice none 0 0, .slice none 0 0, .int .i64 0, .int .i64 0] 24)) (h.size + 1) [.slice none 0 0, .slice none 0 0, .int .i64 lo, .int .i64 hi] 24 := ⟨_, rfl⟩
  have g2 : H2[h.size + 1]? = some (.cells #[.slice none 0 0, .slice none 0 0, .int .i64 lo, .int .i64 hi] 24) := by rw [hH2]; exact upd_same (c := [.slice none 0 0, .slice none 0 0, .int .i64 lo, .int .i64 hi]) (by simp)
  have u2 : Upd ((h.push (.cells #[.slice none 0 0, .slice none 0 0, .int .i64 0, .int .i64 0] 24)).push (.cells #[.slice none 0 0, .slice none 0 0, .int .i64 0, .int .i64 0] 24)) H2 (h.size + 1) := by rw [hH2]; exact Upd.updH
  have g0 := u2.get (pn0 (h := h)) (by omega)
  have x2 : Ext h H2 := u2.ext (((Ext.refl h).push _).push _) (by omega)
  rw [← hH2]
  clear hH2 u2
  refine ⟨fun _ => ⟨fun _ => ?_, fun hh => absurd (by decide) hh⟩, fun hh => absurd (by decide) hh⟩
  refine WP_draw (by kernel_rfl) sta_eq [(0, 0), (1, 0), (2, 0), (3, 3), (4, 3), (5, 3), (6, 0), (7, 1), (8, 0), (9, 1)] (by kernel_rfl) rfl (by kernel_rfl) ?_
  simp only [g2, hvK_eq, splice, coreS, Value.cells, Value.oneCell', Nat.reduceAdd, Nat.reduceSub, Nat.reduceMul, Nat.reduceLeDiff, Int.reduceEq, Nat.reduceEqDiff, drawS, H30Fs79]
  simp only [ite_self, show ((8 : Int) - ((0 : Nat) : Int)).toNat = 8 from rfl, show (((16 : Nat) : Int) - ((0 : Nat) : Int)).toNat = 16 from rfl, show (((16 : Nat) : Int) - (8 : Int)).toNat = 8 from rfl, show ¬ (((16 : Nat) : Int) = (8 : Int)) by decide, if_false]
  refine ⟨by decide, by decide, by decide, by decide, by decide, by decide, by decide, by decide, ?_⟩
  refine stK_abs g2 (by simp) fun h3 g3 u3 => ?_
  simp only [splice] at g3
  simp only [g3, splice, coreS, Value.cells, Value.oneCell', Nat.reduceAdd, Nat.reduceSub, Nat.reduceMul, Nat.reduceLeDiff, Int.reduceEq, Nat.reduceEqDiff, drawS, H30Fs79]
  refine stK_abs g3 (by simp) fun h4 g4 u4 => ?_
  simp only [splice] at g4
  have g04 := u4.get (u3.get g0 (by omega)) (by omega)
  simp only [g4, g04, hvK_eq, splice, coreS, Value.cells, Value.oneCell', Nat.reduceAdd, Nat.reduceSub, Nat.reduceMul, Nat.reduceLeDiff, Int.reduceEq, Nat.reduceEqDiff, drawS, H30Fs79]
  refine stK_abs g04 (by simp) fun h5 g5 u5 => ?_
  simp only [splice] at g5
  simp only [g5, splice, coreS, Value.cells, Value.oneCell', Nat.reduceAdd, Nat.reduceSub, Nat.reduceMul, Nat.reduceLeDiff, Int.reduceEq, Nat.reduceEqDiff, H30Fs79]
  exact ⟨rfl, u5.ext (u4.ext (u3.ext x2 (by omega)) (by omega)) (by omega)⟩
def goodM (g : Nat) : MV := ⟨[2, 3, 4, 5, 6, 7, 7, 7], [0, 0, 1, 1, 2, 3, 4, 4], 2, 5, some ⟨g, 0, none⟩, some ⟨g, 8, none⟩, 16, 8⟩
def stuckM (g : Nat) : MV := ⟨[2, 3, 4, 5, 6, 7, 7, 7], [0, 0, 1, 1, 2, 3, 6, 6], 4, 5, some ⟨g, 0, none⟩, some ⟨g, 8, none⟩, 16, 8⟩
theorem pair_ok {h : Eng.Heap} {g : Nat} {xs ys : List Int} (hx : xs.length = 8) (hy : ys.length = 8) (hb : h[g]? = some (.cells (Eng.ints (xs ++ ys)).toArray 3)) : IntsV h (some ⟨g, 0, none⟩) 8 xs ∧ IntsV h (some ⟨g, 8, none⟩) 8 ys := by
  refine ⟨⟨by omega, .inr ⟨g, 0, _, _, _, rfl, hb, ?_, ?_⟩⟩, ⟨by omega, .inr ⟨g, 8, _, _, _, rfl, hb, ?_, ?_⟩⟩⟩
  · simp [Eng.ints, hx, hy]
  · rw [List.toList_toArray, List.drop_zero, show Eng.ints (xs ++ ys) = Eng.ints xs ++ Eng.ints ys from List.map_append, List.take_left' rfl]
  · simp [Eng.ints, hx, hy]
  · rw [List.toList_toArray, show Eng.ints (xs ++ ys) = Eng.ints xs ++ Eng.ints ys from List.map_append, List.drop_left' (by rw [Eng.ints_length]; exact hx), List.take_of_length_le (Nat.le_refl _)]
theorem good52 (h : Eng.Heap) : CallsH Tryd.prog 52 #[] h (fun r h' => (∃ g, r = (goodM g).val ∧ (goodM g).ok h') ∧ Ext h h') := by
  (refine CallsH_of_exec Tryd.func52 rfl bod52 ?_; simp only [Tryd.ntmps52, Tryd.results52, coreS, stK_some, splice, Value.cells, Value.oneCell', Nat.reduceAdd, Nat.reduceSub, Nat.reduceMul, Nat.reduceLeDiff, Int.reduceEq, Nat.reduceEqDiff, H30Fs52])
  have x0 : Ext h ((h.push (.cells #[.slice none 0 0, .slice none 0 0, .int .i64 0, .int .i64 0] 24)).push (.cells #[.int .i64 2, .int .i64 3, .int .i64 4, .int .i64 5, .int .i64 6, .int .i64 7, .int .i64 7, .int .i64 7, .int .i64 0, .int .i64 0, .int .i64 1, .int .i64 1, .int .i64 2, .int .i64 3, .int .i64 4, .int .i64 4] 3)) := ((Ext.refl h).push _).push _
  refine CallsH.mono (mould79 2 5 (h.size + 1) _) ?_
  rintro v h1 ⟨rfl, x1⟩
  have y1 := x0.trans x1
  have b0 := x1.get (pn0 (h := h))
  have b1 := x1.get (pn1 (h := h))
  simp only [b0, splice, coreS, Value.cells, Value.oneCell', Nat.reduceAdd, Nat.reduceSub, Nat.reduceMul, Nat.reduceLeDiff, Int.reduceEq, Nat.reduceEqDiff, H30Fs52]
  refine stK_abs b0 (by simp) fun h5 g5 u5 => ?_
  simp only [splice] at g5
  have k1 := u5.get b1 (by omega)
  simp only [g5, splice, coreS, Value.cells, Value.oneCell', Nat.reduceAdd, Nat.reduceSub, Nat.reduceMul, Nat.reduceLeDiff, Int.reduceEq, Nat.reduceEqDiff, H30Fs52]
  have hp := pair_ok (h := h5) (g := h.size + 1) (xs := (goodM (h.size + 1)).casts) (ys := (goodM (h.size + 1)).waits) rfl rfl k1
  exact ⟨⟨h.size + 1, rfl, hp.1, hp.2, show 8 ≤ 24 by decide, show 8 ≤ 24 by decide⟩, u5.ext y1 (Nat.le_refl _)⟩
theorem stuck53 (h : Eng.Heap) : CallsH Tryd.prog 53 #[] h (fun r h' => (∃ g, r = (stuckM g).val ∧ (stuckM g).ok h') ∧ Ext h h') := by
  (refine CallsH_of_exec Tryd.func53 rfl bod53 ?_; simp only [Tryd.ntmps53, Tryd.results53, coreS, stK_some, splice, Value.cells, Value.oneCell', Nat.reduceAdd, Nat.reduceSub, Nat.reduceMul, Nat.reduceLeDiff, Int.reduceEq, Nat.reduceEqDiff, H30Fs53])
  have x0 : Ext h ((h.push (.cells #[.slice none 0 0, .slice none 0 0, .int .i64 0, .int .i64 0] 24)).push (.cells #[.int .i64 2, .int .i64 3, .int .i64 4, .int .i64 5, .int .i64 6, .int .i64 7, .int .i64 7, .int .i64 7, .int .i64 0, .int .i64 0, .int .i64 1, .int .i64 1, .int .i64 2, .int .i64 3, .int .i64 6, .int .i64 6] 3)) := ((Ext.refl h).push _).push _
  refine CallsH.mono (mould79 4 5 (h.size + 1) _) ?_
  rintro v h1 ⟨rfl, x1⟩
  have y1 := x0.trans x1
  have b0 := x1.get (pn0 (h := h))
  have b1 := x1.get (pn1 (h := h))
  simp only [b0, splice, coreS, Value.cells, Value.oneCell', Nat.reduceAdd, Nat.reduceSub, Nat.reduceMul, Nat.reduceLeDiff, Int.reduceEq, Nat.reduceEqDiff, H30Fs53]
  refine stK_abs b0 (by simp) fun h5 g5 u5 => ?_
  simp only [splice] at g5
  have k1 := u5.get b1 (by omega)
  simp only [g5, splice, coreS, Value.cells, Value.oneCell', Nat.reduceAdd, Nat.reduceSub, Nat.reduceMul, Nat.reduceLeDiff, Int.reduceEq, Nat.reduceEqDiff, H30Fs53]
  have hp := pair_ok (h := h5) (g := h.size + 1) (xs := (stuckM (h.size + 1)).casts) (ys := (stuckM (h.size + 1)).waits) rfl rfl k1
  exact ⟨⟨h.size + 1, rfl, hp.1, hp.2, show 8 ≤ 24 by decide, show 8 ≤ 24 by decide⟩, u5.ext y1 (Nat.le_refl _)⟩
end Go.Proofs.YtafemfjhflfdeaaDoor
end
section
namespace Go.Proofs.YtafemfjhflfdeaaDoor
open Go Go.Proofs Go.Eng Go.Run Tab
set_option maxRecDepth 100000
set_option linter.unusedSimpArgs false
set_option linter.unusedVariables false
set_option linter.defProp false
set_option maxHeartbeats 4000000
theorem good_ov (g : Nat) : (goodM g).ov = OV.good := rfl
theorem stuck_ov (g : Nat) : (stuckM g).ov = OV.stuck := rfl
theorem good_chk (g : Nat) : chk (goodM g) = 0 := by
  have : chk (goodM 0) = 0 := by decide +kernel
  exact this
theorem stuck_chk (g : Nat) : chk (stuckM g) = 0 := by
  have : chk (stuckM 0) = 0 := by decide +kernel
  exact this
theorem good_ok : OV.good.ok := (good_of (good_chk 0)).ok
theorem stuck_ok : OV.stuck.ok := (good_of (stuck_chk 0)).ok
theorem v1 (g : Nat) : runE (goodM g) 3 ⟨#[99, 99, 119]⟩ = 0 ∧ runA (goodM g) 3 ⟨#[99, 99, 119]⟩ = 4 ∧ runK (goodM g) 3 ⟨#[99, 99, 119]⟩ = 2 := by
  have : runE (goodM 0) 3 ⟨#[99, 99, 119]⟩ = 0 ∧ runA (goodM 0) 3 ⟨#[99, 99, 119]⟩ = 4 ∧ runK (goodM 0) 3 ⟨#[99, 99, 119]⟩ = 2 := by decide +kernel
  exact this
theorem v2 (g : Nat) : runE (goodM g) 3 ⟨#[99, 99, 99]⟩ = 22 := by
  have : runE (goodM 0) 3 ⟨#[99, 99, 99]⟩ = 22 := by decide +kernel
  exact this
theorem v3 (g : Nat) : runE (goodM g) 3 ⟨#[99, 120]⟩ = 8 := by
  have : runE (goodM 0) 3 ⟨#[99, 120]⟩ = 8 := by decide +kernel
  exact this
theorem v4 (g : Nat) : runE (goodM g) 8 ⟨#[99]⟩ = 2 := by
  have : runE (goodM 0) 8 ⟨#[99]⟩ = 2 := by decide +kernel
  exact this
theorem v5 (g : Nat) : ceW (goodM g) 3 4 = 2 ∧ ceE (goodM g) 3 4 = 0 := by
  have : ceW (goodM 0) 3 4 = 2 ∧ ceE (goodM 0) 3 4 = 0 := by decide +kernel
  exact this
theorem v6 (g : Nat) : ceE (goodM g) 1 1 = 22 := by
  have : ceE (goodM 0) 1 1 = 22 := by decide +kernel
  exact this
theorem v7 (g : Nat) : ceP (goodM g) 3 4 = ⟨#[99, 99, 119, 99, 119, 99]⟩ := by
  have : ceP (goodM 0) 3 4 = ⟨#[99, 99, 119, 99, 119, 99]⟩ := by decide +kernel
  exact this
def ivO : Option Nat → Int
  | some k => k
  | none => -1
theorem moV_iv (m : MV) (i : Nat) : moV m i = ivO (m.ov.most i) := by
  rw [moV]; cases m.ov.most i <;> rfl
theorem mo_good (g : Nat) {i : Nat} (hi : i < 8) : moV (goodM g) i = ivO (OV.mostT (fun j => ((OV.goodT.getD j []).getD i none).isSome) 9 0) := by
  rw [moV_iv, good_ov, OV.good_most good_ok hi]
theorem mo_stuck (g : Nat) {i : Nat} (hi : i < 8) : moV (stuckM g) i = ivO (OV.mostT (fun j => ((OV.stuckT.getD j []).getD i none).isSome) 9 0) := by
  rw [moV_iv, stuck_ov, OV.stuck_most stuck_ok hi]
theorem moL_good (g : Nat) : moL (goodM g) 8 = [0, 0, -1, -1, -1, -1, -1, -1] := by
  have : moL (goodM g) 8 = (List.range 8).map fun i => ivO (OV.mostT (fun j => ((OV.goodT.getD j []).getD i none).isSome) 9 0) := by
    rw [moL]
    exact List.map_congr_left fun i hi => mo_good g (List.mem_range.1 hi)
  rw [this]
  decide +kernel
theorem moL_stuck (g : Nat) : moL (stuckM g) 8 = [0, 0, 0, 0, 1, 1, 0, 0] := by
  have : moL (stuckM g) 8 = (List.range 8).map fun i => ivO (OV.mostT (fun j => ((OV.stuckT.getD j []).getD i none).isSome) 9 0) := by
    rw [moL]
    exact List.map_congr_left fun i hi => mo_stuck g (List.mem_range.1 hi)
  rw [this]
  decide +kernel
theorem opn_one (g : Nat) {x : Int} (h : inB 0 (7 : Int) [x] = true) : opn (goodM g) [x] = 0 := by
  rw [opn, good_chk, if_neg (by decide)]
  exact if_pos h
theorem opn_one' (g : Nat) {x : Int} (h : inB 0 (7 : Int) [x] = true) : opn (stuckM g) [x] = 0 := by
  rw [opn, stuck_chk, if_neg (by decide)]
  exact if_pos h
theorem v8 (g : Nat) : moE (goodM g) 3 = 4 := by
  rw [moE, opn_one g (by decide), if_neg (by decide), show (3 : Int).toNat = 3 from rfl, mo_good g (by omega)]
  decide +kernel
theorem v9 (g : Nat) : moE (stuckM g) 4 = 0 ∧ moW (stuckM g) 4 = 1 := by
  have h : moE (stuckM g) 4 = 0 := by
    rw [moE, opn_one' g (by decide), if_neg (by decide), show (4 : Int).toNat = 4 from rfl, mo_stuck g (by omega)]
    decide +kernel
  refine ⟨h, ?_⟩
  rw [moW, h, if_pos rfl, show (4 : Int).toNat = 4 from rfl, mo_stuck g (by omega)]
  decide +kernel
theorem v12 (g : Nat) : cklE (stuckM g) [0, 0, 0, 0, 1, 1, 0, 0] = 0 := by
  have : cklE (stuckM 0) [0, 0, 0, 0, 1, 1, 0, 0] = 0 := by decide +kernel
  exact this
theorem v13 (g : Nat) : cklE (stuckM g) [0, 0, 0, 0, 2, 1, 1, 0] = 14 := by
  have : cklE (stuckM 0) [0, 0, 0, 0, 2, 1, 1, 0] = 14 := by decide +kernel
  exact this
theorem v14 (g : Nat) : ckrE (goodM g) 3 ⟨#[99, 99, 119]⟩ ⟨#[99, 119]⟩ = 0 ∧ ckrV (goodM g) 3 ⟨#[99, 99, 119]⟩ ⟨#[99, 119]⟩ = (1, 1) := by
  have : ckrE (goodM 0) 3 ⟨#[99, 99, 119]⟩ ⟨#[99, 119]⟩ = 0 ∧ ckrV (goodM 0) 3 ⟨#[99, 99, 119]⟩ ⟨#[99, 119]⟩ = (1, 1) := by decide +kernel
  exact this
theorem v15 (g : Nat) : ckrE (goodM g) 3 ⟨#[99]⟩ ⟨#[99, 119]⟩ = 14 := by
  have : ckrE (goodM 0) 3 ⟨#[99]⟩ ⟨#[99, 119]⟩ = 14 := by decide +kernel
  exact this
theorem v16 (g : Nat) : roE (goodM g) 3 = 0 := by
  rw [roE, opn_one g (by decide), if_neg (by decide), show (3 : Int).toNat = 3 from rfl, mo_good g (by omega)]
  decide +kernel
theorem v17 (g : Nat) : roE (stuckM g) 4 = 22 := by
  rw [roE, opn_one' g (by decide), if_neg (by decide), show (4 : Int).toNat = 4 from rfl, mo_stuck g (by omega)]
  decide +kernel
theorem v18 (g : Nat) : rtV (goodM g) 3 = (1, 1) := by
  rw [rtV, v16, if_pos rfl, good_ov]
  exact OV.good_rate
theorem v19 (g : Nat) : raE (goodM g) 2 3 ⟨#[99, 99]⟩ = 0 ∧ raV (goodM g) 2 3 ⟨#[99, 99]⟩ = (6, 7) := by
  have : raE (goodM 0) 2 3 ⟨#[99, 99]⟩ = 0 ∧ raV (goodM 0) 2 3 ⟨#[99, 99]⟩ = (6, 7) := by decide +kernel
  exact this
theorem v20 (g : Nat) : raE (goodM g) 3 4 ⟨#[99, 99]⟩ = 22 := by
  have : raE (goodM 0) 3 4 ⟨#[99, 99]⟩ = 22 := by decide +kernel
  exact this
theorem v21 (g : Nat) : suE (goodM g) 2 3 2 = 0 ∧ suP (goodM g) 2 3 2 = ⟨#[99, 99]⟩ := by
  have : suE (goodM 0) 2 3 2 = 0 ∧ suP (goodM 0) 2 3 2 = ⟨#[99, 99]⟩ := by decide +kernel
  exact this
theorem v22 (g : Nat) : suE (goodM g) 1 3 1 = 22 := by
  have : suE (goodM 0) 1 3 1 = 22 := by decide +kernel
  exact this
theorem v23 (g : Nat) : suE (goodM g) 7 8 1 = 3 := by
  have : suE (goodM 0) 7 8 1 = 3 := by decide +kernel
  exact this
theorem form_planS {p : List Bool} (h : p.length ≤ 500) : formE (planS p) = 0 := by
  rw [formE, planS_size, if_neg (by omega), lets_planS]; rfl
theorem ckr_of {m : MV} {x : Int} {p q : List Bool} {u : Nat} (ho : opn m [x] = 0) (h1 : m.ov.run (x.toNat, x.toNat) p = some (u, u)) (h2 : m.ov.run (u, u) q = some (u, u)) (hc : 1 ≤ OV.casts q) (hu : u < m.casts.length) (hl1 : p.length ≤ 500) (hl2 : q.length ≤ 500) : ckrE m x (planS p) (planS q) = 0 ∧ ckrV m x (planS p) (planS q) = OV.byP (q.length - OV.casts q) (OV.casts q) := by
  have e1 : runE m x (planS p) = 0 := by
    rw [runE, if_neg (by simpa using ho), if_neg (by simpa using form_planS hl1), bits_planS, h1]; rfl
  have a1 : runA m x (planS p) = (u : Int) := by rw [runA, if_pos e1, bits_planS, h1]; rfl
  have hk : chk m = 0 := by
    unfold opn at ho
    split at ho
    · rename_i h; exact absurd ho h
    · rename_i h; exact Classical.not_not.1 h
  have o2 : opn m [(u : Int)] = 0 := by
    rw [opn, if_neg (by simpa using hk), if_pos]
    rw [inB_one, decide_eq_true_eq]; omega
  have e2 : runE m (u : Int) (planS q) = 0 := by
    rw [runE, if_neg (by simpa using o2), if_neg (by simpa using form_planS hl2), bits_planS, Int.toNat_natCast, h2]; rfl
  have a2 : runA m (u : Int) (planS q) = (u : Int) := by rw [runA, if_pos e2, bits_planS, Int.toNat_natCast, h2]; rfl
  have k2 : runK m (u : Int) (planS q) = (OV.casts q : Int) := by rw [runK, if_pos e2, bits_planS]
  have ec : ckrE m x (planS p) (planS q) = 0 := by
    rw [ckrE, e1, a1, e2, a2, k2, if_neg (by decide), if_neg (by decide), if_neg (by omega)]
  refine ⟨ec, ?_⟩
  rw [ckrV, if_pos ec, a1, k2, planS_size, Int.toNat_natCast]
end Go.Proofs.YtafemfjhflfdeaaDoor
end
section
namespace Go.Proofs.YtafemfjhflfdeaaDoor
set_option linter.unusedSimpArgs false
set_option linter.unusedVariables false
set_option linter.defProp false
namespace OV
variable {o : OV}
def Ach (o : OV) (j k : Nat) (v : List Nat) : Prop := ∀ u, u < o.n → v.getD u 0 < far → ∃ p, o.run (j, j) p = some (u, u) ∧ casts p = k ∧ p.length = k + v.getD u 0
theorem Ach.rel (ok : o.ok) {j k : Nat} {v : List Nat} (hv : v.length = o.n) (H : o.Ach j k v) {i : Nat} (hi : i < o.n) : o.Ach j k (o.rel v i) := fun u hu hf => by
  rw [rel_at ok hv hi] at hf ⊢
  by_cases he : u = o.w i
  · rw [if_pos he] at hf ⊢
    by_cases hm : v.getD (o.w i) 0 ≤ v.getD i 0 + 1
    · rw [Nat.min_eq_left hm] at hf ⊢
      rw [← he] at hf ⊢
      exact H u hu hf
    · rw [Nat.min_eq_right (by omega)] at hf ⊢
      obtain ⟨p, h1, h2, h3⟩ := H i hi (by omega)
      refine ⟨p ++ [false], ?_, ?_, ?_⟩
      · rw [he]; exact run_join h1 rfl
      · rw [casts_append, h2]; rfl
      · rw [List.length_append, h3]; simp; omega
  · rw [if_neg he] at hf ⊢
    exact H u hu hf
theorem Ach.fold (ok : o.ok) {j k : Nat} : ∀ (l : List Nat) (v : List Nat), v.length = o.n → (∀ i ∈ l, i < o.n) → o.Ach j k v → o.Ach j k (l.foldl o.rel v)
  | [], v, hv, hl, H => H
  | i :: l, v, hv, hl, H => by
    rw [List.foldl_cons]
    exact Ach.fold ok l _ (by rw [rel_length, hv]) (fun x hx => hl x (List.mem_cons_of_mem _ hx)) (H.rel ok hv (hl i List.mem_cons_self))
theorem Ach.cool (ok : o.ok) {j k : Nat} {v : List Nat} (hv : v.length = o.n) (H : o.Ach j k v) : o.Ach j k (o.cool v) :=
  Ach.fold ok _ v hv (fun i hi => List.mem_range.1 (List.mem_reverse.1 hi)) H
theorem getD_far {n u : Nat} (hu : u < n) : (List.replicate n far).getD u 0 = far := by
  rw [List.getD_eq_getElem?_getD, List.getElem?_replicate, if_pos hu]; rfl
theorem Ach.cstK (ok : o.ok) {j k : Nat} {v : List Nat} (H : o.Ach j k v) : ∀ m, m ≤ o.n → o.Ach j (k + 1) (o.cstK v m)
  | 0, hm, u, hu, hf => by
    rw [show o.cstK v 0 = List.replicate o.n far from rfl, getD_far hu] at hf
    omega
  | m + 1, hm, u, hu, hf => by
    have ih := Ach.cstK ok H m (by omega)
    rw [cstK_succ] at hf ⊢
    unfold cs1 at hf ⊢
    split at hf
    · rename_i hc
      rw [if_pos hc]
      rw [getD_set' (by rw [cstK_length]; exact ok.cl m (by omega))] at hf ⊢
      by_cases he : u = o.c m
      · rw [if_pos he] at hf ⊢
        by_cases hle : (o.cstK v m).getD (o.c m) 0 ≤ v.getD m 0
        · rw [Nat.min_eq_left hle] at hf ⊢
          rw [← he] at hf ⊢
          exact ih u hu hf
        · rw [Nat.min_eq_right (by omega)] at hf ⊢
          obtain ⟨p, h1, h2, h3⟩ := H m (by omega) hf
          refine ⟨p ++ [true], ?_, ?_, ?_⟩
          · rw [he]
            refine run_join h1 ?_
            rw [run_cons, step, if_pos rfl, if_pos hc]; rfl
          · rw [casts_append, h2]; rfl
          · rw [List.length_append, h3]; simp; omega
      · rw [if_neg he] at hf ⊢
        exact ih u hu hf
    · rename_i hc
      rw [if_neg hc]
      exact ih u hu hf
end OV
end Go.Proofs.YtafemfjhflfdeaaDoor
end
section
set_option linter.unusedVariables false
set_option linter.unusedSimpArgs false
namespace Go.Eng
open Go
theorem WP_cut {l : Option Nat} {P : Program} {c : Code} {n : Env → List Deferred → Heap → Prop} {k : Cont} {e : Env} {d : List Deferred} {h : Heap} (ws : List Nat) (I : (Nat → Value) → Heap → Prop)
    (H : WP l P c (thenK (midK e d ws I) k) e d h) (Hn : ∀ g h', I g h' → n (mkE e ws g) d h') : WP l P c (thenK n k) e d h :=
  WP_mono (thenK_mono (fun e' d' h' hmid => by
    unfold midK at hmid
    obtain ⟨h1, h2, h3⟩ := hmid
    subst h1
    rw [h2]
    exact Hn _ _ h3) (fun _ _ _ _ h => h)) H
def eqO : Value → Value → Option Bool
  | .int k a, .int k' b => if k = k' then some (decide (a = b)) else none
  | _, _ => none
def pureO (e : Env) : Op → Option Value
  | .move x => some (ev e x)
  | .assign x => some (ev e x)
  | .pick c a b => match ev e c with
    | .bool true => some (ev e a)
    | .bool false => some (ev e b)
    | _ => none
  | .binOp .eql _ x y _ => (eqO (ev e x) (ev e y)).map .bool
  | .binOp .neq _ x y _ => (eqO (ev e x) (ev e y)).map fun b => .bool (!b)
  | _ => none
def evalP (all : List Oper) : List Oper → Env → Option Env
  | [], e => some e
  | o :: rest, e => match o.guard with
    | none => (pureO e o.op).bind fun v => evalP all rest (putE e o.dst v)
    | some (j, want) => match gslot all j with
      | none => none
      | some t => match e.getD t undef with
        | .bool b => if b = want then (pureO e o.op).bind fun v => evalP all rest (putE e o.dst v) else evalP all rest (putE e o.dst undef)
        | _ => none
theorem eqO_some {v w : Value} {b : Bool} (h : eqO v w = some b) : ∃ k x y, v = .int k x ∧ w = .int k y ∧ b = decide (x = y) := by
  unfold eqO at h
  split at h
  · split at h
    · rename_i hk
      subst hk
      exact ⟨_, _, _, rfl, rfl, (Option.some.inj h).symm⟩
    · cases h
  · cases h
section pureR
variable {P : Program} {k : Cont} {d : List Deferred} {h : Heap}
theorem pureO_sound {e : Env} {o : Op} {v : Value} {ty : TypeId} {K : Value → Heap → Prop} (H : pureO e o = some v) (hK : K v h) : opW P o ty e h K := by
  unfold pureO at H
  unfold opW
  split at H
  · cases H; exact hK
  · cases H; exact hK
  · split at H
    · rename_i hc; cases H; simp only [hc]; exact hK
    · rename_i hc; cases H; simp only [hc]; exact hK
    · cases H
  · rename_i ty2 x y yt
    obtain ⟨b, hb, rfl⟩ := Option.map_eq_some_iff.1 H
    obtain ⟨kd, a, c, h1, h2, rfl⟩ := eqO_some hb
    simp only [h1, h2]
    unfold binW intW
    exact ⟨rfl, hK⟩
  · rename_i ty2 x y yt
    obtain ⟨b, hb, rfl⟩ := Option.map_eq_some_iff.1 H
    obtain ⟨kd, a, c, h1, h2, rfl⟩ := eqO_some hb
    simp only [h1, h2]
    unfold binW intW
    exact ⟨rfl, hK⟩
  · cases H
theorem execR_pure {all : List Oper} {e' : Env} : ∀ (ops : List Oper) (e : Env), evalP all ops e = some e' → k .normal e' d h → execR P all ops k e d h
  | [], e, H, hk => by
    unfold execR
    cases H
    exact hk
  | o :: rest, e, H, hk => by
    unfold execR guardW
    unfold evalP at H
    have plain : ((pureO e o.op).bind fun v => evalP all rest (putE e o.dst v)) = some e' → opW P o.op o.type e h (fun v h' => execR P all rest k (putE e o.dst v) d h') := fun H => by
      obtain ⟨v, h1, h2⟩ := Option.bind_eq_some_iff.1 H
      exact pureO_sound h1 (execR_pure rest _ h2 hk)
    split at H
    · rename_i hg
      simp only [hg]
      exact plain H
    · rename_i j want hg
      simp only [hg]
      split at H
      · cases H
      · rename_i t hs
        simp only [hs]
        split at H
        · rename_i b hb
          have ht : t < e.length := by
            rcases Nat.lt_or_ge t e.length with h | h
            · exact h
            · simp [List.getD, List.getElem?_eq_none h, undef] at hb
          have hset := set_bool_same hb ht
          rw [hb]
          unfold boolW
          have key : ∀ c, b = c → (if c = want then opW P o.op o.type (e.set t (.bool c)) h (fun v h' => execR P all rest k (putE (e.set t (.bool c)) o.dst v) d h') else execR P all rest k (putE (e.set t (.bool c)) o.dst undef) d h) := by
            rintro c rfl
            rw [hset]
            by_cases hw : b = want
            · rw [if_pos hw] at H ⊢; exact plain H
            · rw [if_neg hw] at H ⊢; exact execR_pure rest _ H hk
          exact ⟨fun hb => key true hb, fun hb => key false hb⟩
        · cases H
theorem execR_quiet {all : List Oper} {e : Env} (ws : List Nat) (hs : (evalP all all e).isSome = true) (hw : mkE e ws (fun i => ((evalP all all e).getD []).getD i undef) = (evalP all all e).getD [])
    (H : ∀ g : Nat → Value, (g = fun i => ((evalP all all e).getD []).getD i undef) → k .normal (mkE e ws g) d h) : execR P all all k e d h := by
  obtain ⟨e', he⟩ := Option.isSome_iff_exists.1 hs
  refine execR_pure all e he ?_
  have := H _ rfl
  rw [hw, he] at this
  exact this
end pureR
end Go.Eng
end
section
namespace Go.Proofs.YtafemfjhflfdeaaDoor
open Go Go.Proofs Go.Eng Go.Run Tab
set_option maxRecDepth 100000
set_option linter.unusedSimpArgs false
set_option linter.unusedVariables false
set_option linter.defProp false
set_option maxHeartbeats 8000000
set_option linter.defProp false
def H32Fs19 := (And.intro (And.intro (And.intro (And.intro @agg24 @agg45) (And.intro @agg54 @by3)) (And.intro (And.intro @inf24 @inf3) (And.intro @inf45 @inf54))) (And.intro (And.intro (And.intro @sz24 @sz3) (And.intro @sz45 @sz54)) (And.intro (And.intro @zero24 @zero3) (And.intro @zero45 (And.intro @zero54 @Tryd.underlying22)))))
theorem lab_of {m : MV} {v : Value} {h : Eng.Heap} (hc : chk m = 0) (H : LabV m v h) : ∃ a c, v = .tuple #[.slice a m.casts.length c, .int .i64 0] ∧ IntsV h a m.casts.length (moL m m.casts.length) := by
  rcases H with ⟨_, H⟩ | ⟨H, _⟩
  · exact H
  · exact absurd hc H
theorem rov_zero {m : MV} {x : Int} {v : Value} (h0 : roE m x = 0) (H : RoV m x v) : ∃ (p q : List Bool) (u : Nat), v = .tuple #[.string (planS p), .string (planS q), .int .i64 0] ∧ m.ov.run (x.toNat, x.toNat) p = some (u, u) ∧ m.ov.run (u, u) q = some (u, u) ∧ 1 ≤ OV.casts q ∧ p.length + q.length ≤ 300 := by
  rcases H with ⟨h, _⟩ | ⟨_, H⟩
  · exact absurd h0 h
  · exact H
theorem rov_ne {m : MV} {x : Int} {v : Value} (h0 : roE m x ≠ 0) (H : RoV m x v) : v = .tuple #[.string ⟨#[]⟩, .string ⟨#[]⟩, .int .i64 (roE m x)] := by
  rcases H with ⟨_, H⟩ | ⟨h, _⟩
  · exact H
  · exact absurd h h0
theorem run_lt {o : OV} (ok : o.ok) {i u : Nat} {p : List Bool} (hi : i < o.n) (h : o.run (i, i) p = some (u, u)) : u < o.n := (OV.in_run ok (s := (i, i)) ⟨hi, hi⟩ h).1
theorem eq2Q {er : Env} {h : Eng.Heap} {ty yt u : TypeId} {x y : Operand} (hfl : ((Pt.pr.ty u).map fun t => t.fl) = some (List.replicate 2 .i)) {xs ys : List Int} (h2 : xs.length = 2) (h2' : ys.length = 2) {b : Bool} {K : Value → Eng.Heap → Prop} (hx : ev er x = .agg (Eng.ints xs).toArray) (hy : ev er y = .agg (Eng.ints ys).toArray) (hb : decide (xs = ys) = b) (H : K (.bool b) h) : opQS Tryd.prog Ext (.binOp .eql u x y yt) ty er h K := by
  unfold opQS
  obtain ⟨ti, hti, hfl⟩ := Option.map_eq_some_iff.1 hfl
  refine ⟨.bool b, fun h' hr => ?_, H⟩
  exact eqIntsW Pt.ok hti (xs := xs) (ys := ys) (by omega) (by omega) (by rw [h2]; exact hfl) hx hy ⟨by rw [hb], Ext.refl _⟩
theorem works19 (h : Eng.Heap) : CallsH Tryd.prog 19 #[] h (fun v h' => v = .bool true ∧ Ext h h') := by
  (refine CallsH_of_exec Tryd.func19 rfl bod19 ?_; simp only [Tryd.ntmps19, Tryd.results19, coreS, stK_some, splice, Value.cells, Value.oneCell', Nat.reduceAdd, Nat.reduceSub, Nat.reduceMul, Nat.reduceLeDiff, Int.reduceEq, Nat.reduceEqDiff, H32Fs19])
  refine CallsH.mono (good52 _) ?_
  rintro v h1 ⟨⟨g1, rfl, ok1⟩, x1⟩
  simp only [coreS, Value.cells, Value.oneCell', Nat.reduceAdd, Nat.reduceSub, Nat.reduceMul, Nat.reduceLeDiff, Int.reduceEq, Nat.reduceEqDiff, H32Fs19]
  refine CallsH.mono (stuck53 _) ?_
  rintro v h2 ⟨⟨g2, rfl, ok2⟩, x2⟩
  simp only [splice, coreS, Value.cells, Value.oneCell', Nat.reduceAdd, Nat.reduceSub, Nat.reduceMul, Nat.reduceLeDiff, Int.reduceEq, Nat.reduceEqDiff, H32Fs19]
  obtain ⟨c1, hc1⟩ : ∃ c, c = h2.size := ⟨_, rfl⟩
  have q0 := pn0 (h := h2) (o := .cells #[.slice none 0 0, .slice none 0 0, .int .i64 0, .int .i64 0] 24) (o' := .cells #[.slice none 0 0, .slice none 0 0, .int .i64 0, .int .i64 0] 24)
  have q1 := pn1 (h := h2) (o := .cells #[.slice none 0 0, .slice none 0 0, .int .i64 0, .int .i64 0] 24) (o' := .cells #[.slice none 0 0, .slice none 0 0, .int .i64 0, .int .i64 0] 24)
  have y0 : Ext h2 ((h2.push (.cells #[.slice none 0 0, .slice none 0 0, .int .i64 0, .int .i64 0] 24)).push (.cells #[.slice none 0 0, .slice none 0 0, .int .i64 0, .int .i64 0] 24)) := ((Ext.refl h2).push _).push _
  refine stK_abs q0 (by simp) fun h3 g3 u3 => ?_
  simp only [splice] at g3
  have k3 := u3.get q1 (by omega)
  simp only [k3, splice, coreS, Value.cells, Value.oneCell', Nat.reduceAdd, Nat.reduceSub, Nat.reduceMul, Nat.reduceLeDiff, Int.reduceEq, Nat.reduceEqDiff, H32Fs19]
  refine stK_abs k3 (by simp) fun h4 g4 u4 => ?_
  simp only [splice] at g4
  have k1 := u4.get g3 (by omega)
  have k2 := g4
  have y2 := u4.ext (u3.ext y0 (by omega)) (by omega)
  have y := (x1.trans x2).trans y2
  replace ok1 := (ok1.ext x2).ext y2
  replace ok2 := ok2.ext y2
  have e1 : (goodM g1).val = .agg #[.slice (goodM g1).a (goodM g1).casts.length (goodM g1).ca, .slice (goodM g1).b (goodM g1).waits.length (goodM g1).cb, .int .i64 (goodM g1).lo, .int .i64 (goodM g1).hi] := rfl
  have e2 : (stuckM g2).val = .agg #[.slice (stuckM g2).a (stuckM g2).casts.length (stuckM g2).ca, .slice (stuckM g2).b (stuckM g2).waits.length (stuckM g2).cb, .int .i64 (stuckM g2).lo, .int .i64 (stuckM g2).hi] := rfl
  clear q0 q1 y0 g3 g4 k3 u3 u4 x1 x2 y2
  rw [← hc1] at k1 k2
  simp only [← hc1]
  clear hc1
  simp only [k1, splice, coreS, Value.cells, Value.oneCell', Nat.reduceAdd, Nat.reduceSub, Nat.reduceMul, Nat.reduceLeDiff, Int.reduceEq, Nat.reduceEqDiff, H32Fs19]
  refine CallsH.mono (run20 (goodM g1) 3 ⟨#[99, 99, 119]⟩ _ ok1 (by decide)) ?_
  rintro v h5 ⟨rfl, x5⟩
  replace k1 := x5.get k1
  replace k2 := x5.get k2
  replace ok1 := ok1.ext x5
  replace ok2 := ok2.ext x5
  replace y := y.trans x5
  simp only [k1, k2, (v1 g1).1, (v1 g1).2.1, (v1 g1).2.2, splice, coreS, Value.cells, Value.oneCell', Nat.reduceAdd, Nat.reduceSub, Nat.reduceMul, Nat.reduceLeDiff, Int.reduceEq, Nat.reduceEqDiff, H32Fs19]
  refine CallsH.mono (run20 (goodM g1) 3 ⟨#[99, 99, 99]⟩ _ ok1 (by decide)) ?_
  rintro v h6 ⟨rfl, x6⟩
  replace k1 := x6.get k1
  replace k2 := x6.get k2
  replace ok1 := ok1.ext x6
  replace ok2 := ok2.ext x6
  replace y := y.trans x6
  simp only [k1, k2, v2 g1, splice, coreS, Value.cells, Value.oneCell', Nat.reduceAdd, Nat.reduceSub, Nat.reduceMul, Nat.reduceLeDiff, Int.reduceEq, Nat.reduceEqDiff, H32Fs19]
  refine CallsH.mono (run20 (goodM g1) 3 ⟨#[99, 120]⟩ _ ok1 (by decide)) ?_
  rintro v h7 ⟨rfl, x7⟩
  replace k1 := x7.get k1
  replace k2 := x7.get k2
  replace ok1 := ok1.ext x7
  replace ok2 := ok2.ext x7
  replace y := y.trans x7
  simp only [k1, k2, v3 g1, splice, coreS, Value.cells, Value.oneCell', Nat.reduceAdd, Nat.reduceSub, Nat.reduceMul, Nat.reduceLeDiff, Int.reduceEq, Nat.reduceEqDiff, H32Fs19]
  refine CallsH.mono (run20 (goodM g1) 8 ⟨#[99]⟩ _ ok1 (by decide)) ?_
  rintro v h8 ⟨rfl, x8⟩
  replace k1 := x8.get k1
  replace k2 := x8.get k2
  replace ok1 := ok1.ext x8
  replace ok2 := ok2.ext x8
  replace y := y.trans x8
  simp only [k1, k2, v4 g1, splice, coreS, Value.cells, Value.oneCell', Nat.reduceAdd, Nat.reduceSub, Nat.reduceMul, Nat.reduceLeDiff, Int.reduceEq, Nat.reduceEqDiff, H32Fs19]
  refine CallsH.mono (fewest24 (goodM g1) 3 4 _ ok1) ?_
  rintro v h9 ⟨rfl, x9⟩
  replace k1 := x9.get k1
  replace k2 := x9.get k2
  replace ok1 := ok1.ext x9
  replace ok2 := ok2.ext x9
  replace y := y.trans x9
  simp only [k1, k2, (v5 g1).1, (v5 g1).2, splice, coreS, Value.cells, Value.oneCell', Nat.reduceAdd, Nat.reduceSub, Nat.reduceMul, Nat.reduceLeDiff, Int.reduceEq, Nat.reduceEqDiff, H32Fs19]
  refine CallsH.mono (fewest24 (goodM g1) 1 1 _ ok1) ?_
  rintro v h10 ⟨rfl, x10⟩
  replace k1 := x10.get k1
  replace k2 := x10.get k2
  replace ok1 := ok1.ext x10
  replace ok2 := ok2.ext x10
  replace y := y.trans x10
  simp only [k1, k2, v6 g1, splice, coreS, Value.cells, Value.oneCell', Nat.reduceAdd, Nat.reduceSub, Nat.reduceMul, Nat.reduceLeDiff, Int.reduceEq, Nat.reduceEqDiff, H32Fs19]
  refine CallsH.mono (plan26 (goodM g1) 3 4 _ ok1) ?_
  rintro v h11 ⟨rfl, x11⟩
  replace k1 := x11.get k1
  replace k2 := x11.get k2
  replace ok1 := ok1.ext x11
  replace ok2 := ok2.ext x11
  replace y := y.trans x11
  simp only [k1, k2, v7 g1, (v5 g1).2, splice, coreS, Value.cells, Value.oneCell', Nat.reduceAdd, Nat.reduceSub, Nat.reduceMul, Nat.reduceLeDiff, Int.reduceEq, Nat.reduceEqDiff, H32Fs19]
  refine CallsH.mono (most28 (goodM g1) 3 _ ok1) ?_
  rintro v h12 ⟨rfl, x12⟩
  replace k1 := x12.get k1
  replace k2 := x12.get k2
  replace ok1 := ok1.ext x12
  replace ok2 := ok2.ext x12
  replace y := y.trans x12
  simp only [k1, k2, v8 g1, splice, coreS, Value.cells, Value.oneCell', Nat.reduceAdd, Nat.reduceSub, Nat.reduceMul, Nat.reduceLeDiff, Int.reduceEq, Nat.reduceEqDiff, H32Fs19]
  refine CallsH.mono (most28 (stuckM g2) 4 _ ok2) ?_
  rintro v h13 ⟨rfl, x13⟩
  replace k1 := x13.get k1
  replace k2 := x13.get k2
  replace ok1 := ok1.ext x13
  replace ok2 := ok2.ext x13
  replace y := y.trans x13
  simp only [k1, k2, (v9 g2).1, (v9 g2).2, splice, coreS, Value.cells, Value.oneCell', Nat.reduceAdd, Nat.reduceSub, Nat.reduceMul, Nat.reduceLeDiff, Int.reduceEq, Nat.reduceEqDiff, H32Fs19]
  refine CallsH.mono (labels30 (goodM g1) _ ok1) ?_
  rintro v h14 ⟨hL, x14⟩
  replace k1 := x14.get k1
  replace k2 := x14.get k2
  replace ok1 := ok1.ext x14
  replace ok2 := ok2.ext x14
  replace y := y.trans x14
  obtain ⟨a1, d1, rfl, I1⟩ := lab_of (good_chk g1) hL
  simp only [k1, k2, splice, coreS, Value.cells, Value.oneCell', Nat.reduceAdd, Nat.reduceSub, Nat.reduceMul, Nat.reduceLeDiff, Int.reduceEq, Nat.reduceEqDiff, H32Fs19]
  rw [show moL (goodM g1) (goodM g1).casts.length = [0, 0, -1, -1, -1, -1, -1, -1] from moL_good g1] at I1
  refine CallsH.mono (labels30 (stuckM g2) _ ok2) ?_
  rintro v h15 ⟨hL, x15⟩
  replace k1 := x15.get k1
  replace k2 := x15.get k2
  replace ok1 := ok1.ext x15
  replace ok2 := ok2.ext x15
  replace y := y.trans x15
  replace I1 := I1.ext x15
  obtain ⟨a2, d2, rfl, I2⟩ := lab_of (stuck_chk g2) hL
  simp only [k1, k2, splice, coreS, Value.cells, Value.oneCell', Nat.reduceAdd, Nat.reduceSub, Nat.reduceMul, Nat.reduceLeDiff, Int.reduceEq, Nat.reduceEqDiff, H32Fs19]
  rw [show moL (stuckM g2) (stuckM g2).casts.length = [0, 0, 0, 0, 1, 1, 0, 0] from moL_stuck g2] at I2
  refine WP_cut [29, 30, 116, 117, 118, 119, 120, 121, 122, 123] (fun g h' => g 29 = .int .i64 0 ∧ g 30 = .int .i64 14 ∧ Ext h15 h') ?_ ?_
  · refine WP_tree (by kernel_rfl) sta_ext (.quiet 0 (.quiet 4 (.fork 1 5 (.quiet 2 (.quiet 3 (.keep 5 (.quiet 6 (.quiet 7 (.quiet 8 (.quiet 9 (.fin)))))))) (.keep 1 (.quiet 2 (.quiet 3 (.quiet 6 (.quiet 7 (.quiet 8 (.quiet 9 (.fin))))))))))) (by kernel_rfl) rfl (by kernel_rfl) ?_
    simp only [k1, k2, splice, coreS, Value.cells, Value.oneCell', Nat.reduceAdd, Nat.reduceSub, Nat.reduceMul, Nat.reduceLeDiff, Int.reduceEq, Nat.reduceEqDiff, drawS, treeS, H32Fs19]
    refine execT_fork fun hA xA => ⟨?_, ?_⟩
    · simp only [splice, coreS, Value.cells, Value.oneCell', Nat.reduceAdd, Nat.reduceSub, Nat.reduceMul, Nat.reduceLeDiff, Int.reduceEq, Nat.reduceEqDiff, drawS, treeS, H32Fs19]
      refine ⟨(Ext.refl hA).push _, ?_⟩
      refine cQ_ext _ (fun h' x' => CallsH.mono (of54 _ h') fun v h'' q => ⟨q.1, by rw [q.2]; exact Ext.refl _⟩) ?_
      simp only [k1, k2, coreS, Value.cells, Value.oneCell', Nat.reduceAdd, Nat.reduceSub, Nat.reduceMul, Nat.reduceLeDiff, Int.reduceEq, Nat.reduceEqDiff, drawS, treeS, H32Fs19]
      refine cQ_ext _ (fun h' x' => CallsH.mono (ckl33 (stuckM g2) (some ⟨hA.size, 0, none⟩) 8 8 [0, 0, 0, 0, 1, 1, 0, 0] h' (ok2.ext ((xA.push _).trans x')) (IntsV.block (xs := [0, 0, 0, 0, 1, 1, 0, 0]) (x'.get push_new)) (by omega)) fun v h'' q => ⟨q.1, q.2⟩) ?_
      simp only [v12 g2, coreS, Value.cells, Value.oneCell', Nat.reduceAdd, Nat.reduceSub, Nat.reduceMul, Nat.reduceLeDiff, Int.reduceEq, Nat.reduceEqDiff, drawS, treeS, H32Fs19]
      refine execT_keep fun hB xB => ?_
      simp only [splice, coreS, Value.cells, Value.oneCell', Nat.reduceAdd, Nat.reduceSub, Nat.reduceMul, Nat.reduceLeDiff, Int.reduceEq, Nat.reduceEqDiff, drawS, treeS, H32Fs19]
      refine ⟨(Ext.refl hB).push _, ?_⟩
      refine cQ_ext _ (fun h' x' => CallsH.mono (of54 _ h') fun v h'' q => ⟨q.1, by rw [q.2]; exact Ext.refl _⟩) ?_
      simp only [k1, k2, coreS, Value.cells, Value.oneCell', Nat.reduceAdd, Nat.reduceSub, Nat.reduceMul, Nat.reduceLeDiff, Int.reduceEq, Nat.reduceEqDiff, drawS, treeS, H32Fs19]
      refine cQ_ext _ (fun h' x' => CallsH.mono (ckl33 (stuckM g2) (some ⟨hB.size, 0, none⟩) 8 8 [0, 0, 0, 0, 2, 1, 1, 0] h' (ok2.ext ((((xA.push _).trans xB).push _).trans x')) (IntsV.block (xs := [0, 0, 0, 0, 2, 1, 1, 0]) (x'.get push_new)) (by omega)) fun v h'' q => ⟨q.1, q.2⟩) ?_
      simp only [v13 g2, coreS, Value.cells, Value.oneCell', Nat.reduceAdd, Nat.reduceSub, Nat.reduceMul, Nat.reduceLeDiff, Int.reduceEq, Nat.reduceEqDiff, drawS, treeS, H32Fs19]
      refine execT_fin fun hC xC => ?_
      simp only [coreS, Value.cells, Value.oneCell', Nat.reduceAdd, Nat.reduceSub, Nat.reduceMul, Nat.reduceLeDiff, Int.reduceEq, Nat.reduceEqDiff, H32Fs19]
      exact midK_mk (by kernel_rfl) ⟨rfl, rfl, (((xA.push _).trans xB).push _).trans xC⟩
    · simp only [splice, coreS, Value.cells, Value.oneCell', Nat.reduceAdd, Nat.reduceSub, Nat.reduceMul, Nat.reduceLeDiff, Int.reduceEq, Nat.reduceEqDiff, drawS, treeS, H32Fs19]
      refine ⟨(Ext.refl hA).push _, ?_⟩
      refine execT_keep fun hB xB => ?_
      simp only [splice, coreS, Value.cells, Value.oneCell', Nat.reduceAdd, Nat.reduceSub, Nat.reduceMul, Nat.reduceLeDiff, Int.reduceEq, Nat.reduceEqDiff, drawS, treeS, H32Fs19]
      refine ⟨(Ext.refl hB).push _, ?_⟩
      refine cQ_ext _ (fun h' x' => CallsH.mono (of54 _ h') fun v h'' q => ⟨q.1, by rw [q.2]; exact Ext.refl _⟩) ?_
      simp only [k1, k2, coreS, Value.cells, Value.oneCell', Nat.reduceAdd, Nat.reduceSub, Nat.reduceMul, Nat.reduceLeDiff, Int.reduceEq, Nat.reduceEqDiff, drawS, treeS, H32Fs19]
      refine cQ_ext _ (fun h' x' => CallsH.mono (ckl33 (stuckM g2) (some ⟨hB.size, 0, none⟩) 8 8 [0, 0, 0, 0, 1, 1, 0, 0] h' (ok2.ext ((((xA.push _).trans xB).push _).trans x')) (IntsV.block (xs := [0, 0, 0, 0, 1, 1, 0, 0]) (x'.get push_new)) (by omega)) fun v h'' q => ⟨q.1, q.2⟩) ?_
      simp only [v12 g2, coreS, Value.cells, Value.oneCell', Nat.reduceAdd, Nat.reduceSub, Nat.reduceMul, Nat.reduceLeDiff, Int.reduceEq, Nat.reduceEqDiff, drawS, treeS, H32Fs19]
      refine cQ_ext _ (fun h' x' => CallsH.mono (of54 _ h') fun v h'' q => ⟨q.1, by rw [q.2]; exact Ext.refl _⟩) ?_
      simp only [k1, k2, coreS, Value.cells, Value.oneCell', Nat.reduceAdd, Nat.reduceSub, Nat.reduceMul, Nat.reduceLeDiff, Int.reduceEq, Nat.reduceEqDiff, drawS, treeS, H32Fs19]
      refine cQ_ext _ (fun h' x' => CallsH.mono (ckl33 (stuckM g2) (some ⟨hA.size, 0, none⟩) 8 8 [0, 0, 0, 0, 2, 1, 1, 0] h' (ok2.ext ((((xA.push _).trans xB).push _).trans x')) (IntsV.block (xs := [0, 0, 0, 0, 2, 1, 1, 0]) (x'.get (push_old (xB.get push_new)))) (by omega)) fun v h'' q => ⟨q.1, q.2⟩) ?_
      simp only [v13 g2, coreS, Value.cells, Value.oneCell', Nat.reduceAdd, Nat.reduceSub, Nat.reduceMul, Nat.reduceLeDiff, Int.reduceEq, Nat.reduceEqDiff, drawS, treeS, H32Fs19]
      refine execT_fin fun hC xC => ?_
      simp only [coreS, Value.cells, Value.oneCell', Nat.reduceAdd, Nat.reduceSub, Nat.reduceMul, Nat.reduceLeDiff, Int.reduceEq, Nat.reduceEqDiff, H32Fs19]
      exact midK_mk (by kernel_rfl) ⟨rfl, rfl, (((xA.push _).trans xB).push _).trans xC⟩
  rintro f1 h16 ⟨f1a, f1b, x16⟩
  replace k1 := x16.get k1
  replace k2 := x16.get k2
  replace ok1 := ok1.ext x16
  replace ok2 := ok2.ext x16
  replace y := y.trans x16
  replace I1 := I1.ext x16
  replace I2 := I2.ext x16
  simp only [k1, k2, f1a, f1b, splice, coreS, Value.cells, Value.oneCell', Nat.reduceAdd, Nat.reduceSub, Nat.reduceMul, Nat.reduceLeDiff, Int.reduceEq, Nat.reduceEqDiff, H32Fs19]
  refine CallsH.mono (ckr35 (goodM g1) 3 ⟨#[99, 99, 119]⟩ ⟨#[99, 119]⟩ _ ok1 (by decide) (by decide)) ?_
  rintro v h17 ⟨rfl, x17⟩
  replace k1 := x17.get k1
  replace k2 := x17.get k2
  replace ok1 := ok1.ext x17
  replace ok2 := ok2.ext x17
  replace y := y.trans x17
  replace I1 := I1.ext x17
  replace I2 := I2.ext x17
  simp only [k1, k2, (v14 g1).1, (v14 g1).2, ratV, splice, coreS, Value.cells, Value.oneCell', Nat.reduceAdd, Nat.reduceSub, Nat.reduceMul, Nat.reduceLeDiff, Int.reduceEq, Nat.reduceEqDiff, H32Fs19]
  refine stK_abs push_new (by simp) fun h18 b3 u18 => ?_
  simp only [splice] at b3
  have x18 : Ext h17 h18 := u18.ext ((Ext.refl h17).push _) (Nat.le_refl _)
  replace k1 := x18.get k1
  replace k2 := x18.get k2
  replace ok1 := ok1.ext x18
  replace ok2 := ok2.ext x18
  replace y := y.trans x18
  replace I1 := I1.ext x18
  replace I2 := I2.ext x18
  simp only [k1, k2, b3, splice, coreS, Value.cells, Value.oneCell', Nat.reduceAdd, Nat.reduceSub, Nat.reduceMul, Nat.reduceLeDiff, Int.reduceEq, Nat.reduceEqDiff, H32Fs19]
  refine CallsH.mono (ckr35 (goodM g1) 3 ⟨#[99]⟩ ⟨#[99, 119]⟩ _ ok1 (by decide) (by decide)) ?_
  rintro v h19 ⟨rfl, x19⟩
  replace k1 := x19.get k1
  replace k2 := x19.get k2
  replace ok1 := ok1.ext x19
  replace ok2 := ok2.ext x19
  replace y := y.trans x19
  replace I1 := I1.ext x19
  replace I2 := I2.ext x19
  replace b3 := x19.get b3
  simp only [k1, k2, b3, v15 g1, ratV, splice, coreS, Value.cells, Value.oneCell', Nat.reduceAdd, Nat.reduceSub, Nat.reduceMul, Nat.reduceLeDiff, Int.reduceEq, Nat.reduceEqDiff, H32Fs19]
  refine stK_abs push_new (by simp) fun h20 b4 u20 => ?_
  simp only [splice] at b4
  have x20 : Ext h19 h20 := u20.ext ((Ext.refl h19).push _) (Nat.le_refl _)
  replace k1 := x20.get k1
  replace k2 := x20.get k2
  replace ok1 := ok1.ext x20
  replace ok2 := ok2.ext x20
  replace y := y.trans x20
  replace I1 := I1.ext x20
  replace I2 := I2.ext x20
  replace b3 := x20.get b3
  simp only [k1, k2, b3, b4, splice, coreS, Value.cells, Value.oneCell', Nat.reduceAdd, Nat.reduceSub, Nat.reduceMul, Nat.reduceLeDiff, Int.reduceEq, Nat.reduceEqDiff, H32Fs19]
  refine CallsH.mono (round39 (goodM g1) 3 _ ok1) ?_
  rintro v h21 ⟨hR, x21⟩
  replace k1 := x21.get k1
  replace k2 := x21.get k2
  replace ok1 := ok1.ext x21
  replace ok2 := ok2.ext x21
  replace y := y.trans x21
  replace I1 := I1.ext x21
  replace I2 := I2.ext x21
  replace b3 := x21.get b3
  replace b4 := x21.get b4
  obtain ⟨p, q, u, rfl, hp1, hp2, hp3, hp4⟩ := rov_zero (v16 g1) hR
  simp only [k1, k2, b3, b4, splice, coreS, Value.cells, Value.oneCell', Nat.reduceAdd, Nat.reduceSub, Nat.reduceMul, Nat.reduceLeDiff, Int.reduceEq, Nat.reduceEqDiff, H32Fs19]
  refine CallsH.mono (round39 (stuckM g2) 4 _ ok2) ?_
  rintro v h22 ⟨hR2, x22⟩
  replace k1 := x22.get k1
  replace k2 := x22.get k2
  replace ok1 := ok1.ext x22
  replace ok2 := ok2.ext x22
  replace y := y.trans x22
  replace I1 := I1.ext x22
  replace I2 := I2.ext x22
  replace b3 := x22.get b3
  replace b4 := x22.get b4
  obtain rfl := rov_ne (by rw [v17 g2]; decide) hR2
  simp only [k1, k2, b3, b4, v17 g2, splice, coreS, Value.cells, Value.oneCell', Nat.reduceAdd, Nat.reduceSub, Nat.reduceMul, Nat.reduceLeDiff, Int.reduceEq, Nat.reduceEqDiff, H32Fs19]
  refine CallsH.mono (rate37 (goodM g1) 3 _ ok1) ?_
  rintro v h23 ⟨rfl, x23⟩
  replace k1 := x23.get k1
  replace k2 := x23.get k2
  replace ok1 := ok1.ext x23
  replace ok2 := ok2.ext x23
  replace y := y.trans x23
  replace I1 := I1.ext x23
  replace I2 := I2.ext x23
  replace b3 := x23.get b3
  replace b4 := x23.get b4
  simp only [k1, k2, b3, b4, v18 g1, v16 g1, ratV, splice, coreS, Value.cells, Value.oneCell', Nat.reduceAdd, Nat.reduceSub, Nat.reduceMul, Nat.reduceLeDiff, Int.reduceEq, Nat.reduceEqDiff, H32Fs19]
  refine stK_abs push_new (by simp) fun h24 b5 u24 => ?_
  simp only [splice] at b5
  have x24 : Ext h23 h24 := u24.ext ((Ext.refl h23).push _) (Nat.le_refl _)
  replace k1 := x24.get k1
  replace k2 := x24.get k2
  replace ok1 := ok1.ext x24
  replace ok2 := ok2.ext x24
  replace y := y.trans x24
  replace I1 := I1.ext x24
  replace I2 := I2.ext x24
  replace b3 := x24.get b3
  replace b4 := x24.get b4
  simp only [k1, k2, b3, b4, b5, splice, coreS, Value.cells, Value.oneCell', Nat.reduceAdd, Nat.reduceSub, Nat.reduceMul, Nat.reduceLeDiff, Int.reduceEq, Nat.reduceEqDiff, H32Fs19]
  refine WP_cut [43, 44, 151, 152, 153, 154, 155, 156] (fun g h' => (∃ b, g 43 = .pointer (some ⟨b, 0, none⟩) ∧ h'[b]? = some (.cells #[.int .i64 (6), .int .i64 (7)] 54)) ∧ g 44 = .int .i64 0 ∧ Ext h24 h') ?_ ?_
  · refine WP_tree (by kernel_rfl) sta_ext (.quiet 0 (.quiet 1 (.quiet 2 (.quiet 3 (.quiet 4 (.pure 5 (.keep 6 (.one 7 (.quiet 8 (.fin)))))))))) (by kernel_rfl) rfl (by kernel_rfl) ?_
    simp only [k1, k2, b3, b4, b5, splice, coreS, Value.cells, Value.oneCell', Nat.reduceAdd, Nat.reduceSub, Nat.reduceMul, Nat.reduceLeDiff, Int.reduceEq, Nat.reduceEqDiff, drawS, treeS, H32Fs19]
    refine cQ_ext _ (fun h' x' => CallsH.mono (to49 2 3 h') fun v h'' q => ⟨q.1, q.2⟩) ?_
    simp only [rgV, k1, k2, b3, b4, b5, splice, coreS, Value.cells, Value.oneCell', Nat.reduceAdd, Nat.reduceSub, Nat.reduceMul, Nat.reduceLeDiff, Int.reduceEq, Nat.reduceEqDiff, drawS, treeS, H32Fs19]
    refine cQ_ext _ (fun h' x' => CallsH.mono (runAll41 (goodM g1) 2 3 ⟨#[99, 99]⟩ h' (ok1.ext x') (by decide)) fun v h'' q => ⟨q.1, q.2⟩) ?_
    simp only [(v19 g1).1, (v19 g1).2, spV, splice, coreS, Value.cells, Value.oneCell', Nat.reduceAdd, Nat.reduceSub, Nat.reduceMul, Nat.reduceLeDiff, Int.reduceEq, Nat.reduceEqDiff, drawS, treeS, H32Fs19]
    refine execT_keep fun hA xA => ?_
    simp only [splice, coreS, Value.cells, Value.oneCell', Nat.reduceAdd, Nat.reduceSub, Nat.reduceMul, Nat.reduceLeDiff, Int.reduceEq, Nat.reduceEqDiff, drawS, treeS, H32Fs19]
    refine ⟨(Ext.refl hA).push _, ?_⟩
    refine execT_one fun hB xB => ?_
    have tB := xB.get (push_new (h := hA))
    simp only [tB, splice, coreS, Value.cells, Value.oneCell', Nat.reduceAdd, Nat.reduceSub, Nat.reduceMul, Nat.reduceLeDiff, Int.reduceEq, Nat.reduceEqDiff, drawS, treeS, H32Fs19]
    refine stK_abs tB (by simp) fun hC gC uC => ?_
    simp only [splice] at gC
    have xx : Ext hA hC := uC.ext xB.of_push (Nat.le_refl _)
    try simp only [coreS, Value.cells, Value.oneCell', Nat.reduceAdd, Nat.reduceSub, Nat.reduceMul, Nat.reduceLeDiff, Int.reduceEq, Nat.reduceEqDiff, drawS, treeS, H32Fs19]
    refine execT_fin fun hD xD => ?_
    simp only [coreS, Value.cells, Value.oneCell', Nat.reduceAdd, Nat.reduceSub, Nat.reduceMul, Nat.reduceLeDiff, Int.reduceEq, Nat.reduceEqDiff, H32Fs19]
    exact midK_mk (by kernel_rfl) ⟨⟨hA.size, rfl, xD.get gC⟩, rfl, (xA.trans xx).trans xD⟩
  rintro f19 h25 ⟨⟨b19_, f19a, b19⟩, f19b, x25⟩
  replace k1 := x25.get k1
  replace k2 := x25.get k2
  replace ok1 := ok1.ext x25
  replace ok2 := ok2.ext x25
  replace y := y.trans x25
  replace I1 := I1.ext x25
  replace I2 := I2.ext x25
  replace b3 := x25.get b3
  replace b4 := x25.get b4
  replace b5 := x25.get b5
  simp only [k1, k2, b3, b4, b5, b19, f19a, f19b, splice, coreS, Value.cells, Value.oneCell', Nat.reduceAdd, Nat.reduceSub, Nat.reduceMul, Nat.reduceLeDiff, Int.reduceEq, Nat.reduceEqDiff, H32Fs19]
  refine WP_cut [45, 46, 157, 158, 159, 160, 161, 162] (fun g h' => (∃ b, g 45 = .pointer (some ⟨b, 0, none⟩) ∧ h'[b]? = some (.cells #[.int .i64 (((raV (goodM g1) 3 4 ⟨#[99, 99]⟩).1 : Nat) : Int), .int .i64 (((raV (goodM g1) 3 4 ⟨#[99, 99]⟩).2 : Nat) : Int)] 54)) ∧ g 46 = .int .i64 22 ∧ Ext h25 h') ?_ ?_
  · refine WP_tree (by kernel_rfl) sta_ext (.quiet 0 (.quiet 1 (.quiet 2 (.quiet 3 (.quiet 4 (.pure 5 (.keep 6 (.one 7 (.quiet 8 (.fin)))))))))) (by kernel_rfl) rfl (by kernel_rfl) ?_
    simp only [k1, k2, b3, b4, b5, b19, splice, coreS, Value.cells, Value.oneCell', Nat.reduceAdd, Nat.reduceSub, Nat.reduceMul, Nat.reduceLeDiff, Int.reduceEq, Nat.reduceEqDiff, drawS, treeS, H32Fs19]
    refine cQ_ext _ (fun h' x' => CallsH.mono (to49 3 4 h') fun v h'' q => ⟨q.1, q.2⟩) ?_
    simp only [rgV, k1, k2, b3, b4, b5, b19, splice, coreS, Value.cells, Value.oneCell', Nat.reduceAdd, Nat.reduceSub, Nat.reduceMul, Nat.reduceLeDiff, Int.reduceEq, Nat.reduceEqDiff, drawS, treeS, H32Fs19]
    refine cQ_ext _ (fun h' x' => CallsH.mono (runAll41 (goodM g1) 3 4 ⟨#[99, 99]⟩ h' (ok1.ext x') (by decide)) fun v h'' q => ⟨q.1, q.2⟩) ?_
    simp only [v20 g1, spV, splice, coreS, Value.cells, Value.oneCell', Nat.reduceAdd, Nat.reduceSub, Nat.reduceMul, Nat.reduceLeDiff, Int.reduceEq, Nat.reduceEqDiff, drawS, treeS, H32Fs19]
    refine execT_keep fun hA xA => ?_
    simp only [splice, coreS, Value.cells, Value.oneCell', Nat.reduceAdd, Nat.reduceSub, Nat.reduceMul, Nat.reduceLeDiff, Int.reduceEq, Nat.reduceEqDiff, drawS, treeS, H32Fs19]
    refine ⟨(Ext.refl hA).push _, ?_⟩
    refine execT_one fun hB xB => ?_
    have tB := xB.get (push_new (h := hA))
    simp only [tB, splice, coreS, Value.cells, Value.oneCell', Nat.reduceAdd, Nat.reduceSub, Nat.reduceMul, Nat.reduceLeDiff, Int.reduceEq, Nat.reduceEqDiff, drawS, treeS, H32Fs19]
    refine stK_abs tB (by simp) fun hC gC uC => ?_
    simp only [splice] at gC
    have xx : Ext hA hC := uC.ext xB.of_push (Nat.le_refl _)
    try simp only [coreS, Value.cells, Value.oneCell', Nat.reduceAdd, Nat.reduceSub, Nat.reduceMul, Nat.reduceLeDiff, Int.reduceEq, Nat.reduceEqDiff, drawS, treeS, H32Fs19]
    refine execT_fin fun hD xD => ?_
    simp only [coreS, Value.cells, Value.oneCell', Nat.reduceAdd, Nat.reduceSub, Nat.reduceMul, Nat.reduceLeDiff, Int.reduceEq, Nat.reduceEqDiff, H32Fs19]
    exact midK_mk (by kernel_rfl) ⟨⟨hA.size, rfl, xD.get gC⟩, rfl, (xA.trans xx).trans xD⟩
  rintro f20 h26 ⟨⟨b20_, f20a, b20⟩, f20b, x26⟩
  replace k1 := x26.get k1
  replace k2 := x26.get k2
  replace ok1 := ok1.ext x26
  replace ok2 := ok2.ext x26
  replace y := y.trans x26
  replace I1 := I1.ext x26
  replace I2 := I2.ext x26
  replace b3 := x26.get b3
  replace b4 := x26.get b4
  replace b5 := x26.get b5
  replace b19 := x26.get b19
  simp only [k1, k2, b3, b4, b5, b19, b20, f20a, f20b, splice, coreS, Value.cells, Value.oneCell', Nat.reduceAdd, Nat.reduceSub, Nat.reduceMul, Nat.reduceLeDiff, Int.reduceEq, Nat.reduceEqDiff, H32Fs19]
  refine WP_cut [47, 48, 163, 164, 165, 166, 167, 168] (fun g h' => g 47 = .string ⟨#[99, 99]⟩ ∧ g 48 = .int .i64 0 ∧ Ext h26 h') ?_ ?_
  · refine WP_tree (by kernel_rfl) sta_ext (.quiet 0 (.quiet 1 (.quiet 2 (.quiet 3 (.quiet 4 (.quiet 5 (.quiet 6 (.quiet 7 (.fin))))))))) (by kernel_rfl) rfl (by kernel_rfl) ?_
    simp only [k1, k2, b3, b4, b5, b19, b20, splice, coreS, Value.cells, Value.oneCell', Nat.reduceAdd, Nat.reduceSub, Nat.reduceMul, Nat.reduceLeDiff, Int.reduceEq, Nat.reduceEqDiff, drawS, treeS, H32Fs19]
    refine cQ_ext _ (fun h' x' => CallsH.mono (to49 2 3 h') fun v h'' q => ⟨q.1, q.2⟩) ?_
    simp only [rgV, k1, k2, b3, b4, b5, b19, b20, splice, coreS, Value.cells, Value.oneCell', Nat.reduceAdd, Nat.reduceSub, Nat.reduceMul, Nat.reduceLeDiff, Int.reduceEq, Nat.reduceEqDiff, drawS, treeS, H32Fs19]
    refine cQ_ext _ (fun h' x' => CallsH.mono (surely43 (goodM g1) 2 3 2 h' (ok1.ext x')) fun v h'' q => ⟨q.1, q.2⟩) ?_
    simp only [(v21 g1).1, (v21 g1).2, splice, coreS, Value.cells, Value.oneCell', Nat.reduceAdd, Nat.reduceSub, Nat.reduceMul, Nat.reduceLeDiff, Int.reduceEq, Nat.reduceEqDiff, drawS, treeS, H32Fs19]
    refine execT_fin fun hD xD => ?_
    simp only [coreS, Value.cells, Value.oneCell', Nat.reduceAdd, Nat.reduceSub, Nat.reduceMul, Nat.reduceLeDiff, Int.reduceEq, Nat.reduceEqDiff, H32Fs19]
    exact midK_mk (by kernel_rfl) ⟨rfl, rfl, xD⟩
  rintro f21 h27 ⟨f21a, f21b, x27⟩
  replace k1 := x27.get k1
  replace k2 := x27.get k2
  replace ok1 := ok1.ext x27
  replace ok2 := ok2.ext x27
  replace y := y.trans x27
  replace I1 := I1.ext x27
  replace I2 := I2.ext x27
  replace b3 := x27.get b3
  replace b4 := x27.get b4
  replace b5 := x27.get b5
  replace b19 := x27.get b19
  replace b20 := x27.get b20
  simp only [k1, k2, b3, b4, b5, b19, b20, f21a, f21b, splice, coreS, Value.cells, Value.oneCell', Nat.reduceAdd, Nat.reduceSub, Nat.reduceMul, Nat.reduceLeDiff, Int.reduceEq, Nat.reduceEqDiff, H32Fs19]
  refine WP_cut [49, 50, 169, 170, 171, 172, 173, 174] (fun g h' => g 49 = .string (suP (goodM g1) 1 3 1) ∧ g 50 = .int .i64 22 ∧ Ext h27 h') ?_ ?_
  · refine WP_tree (by kernel_rfl) sta_ext (.quiet 0 (.quiet 1 (.quiet 2 (.quiet 3 (.quiet 4 (.quiet 5 (.quiet 6 (.quiet 7 (.fin))))))))) (by kernel_rfl) rfl (by kernel_rfl) ?_
    simp only [k1, k2, b3, b4, b5, b19, b20, splice, coreS, Value.cells, Value.oneCell', Nat.reduceAdd, Nat.reduceSub, Nat.reduceMul, Nat.reduceLeDiff, Int.reduceEq, Nat.reduceEqDiff, drawS, treeS, H32Fs19]
    refine cQ_ext _ (fun h' x' => CallsH.mono (to49 1 3 h') fun v h'' q => ⟨q.1, q.2⟩) ?_
    simp only [rgV, k1, k2, b3, b4, b5, b19, b20, splice, coreS, Value.cells, Value.oneCell', Nat.reduceAdd, Nat.reduceSub, Nat.reduceMul, Nat.reduceLeDiff, Int.reduceEq, Nat.reduceEqDiff, drawS, treeS, H32Fs19]
    refine cQ_ext _ (fun h' x' => CallsH.mono (surely43 (goodM g1) 1 3 1 h' (ok1.ext x')) fun v h'' q => ⟨q.1, q.2⟩) ?_
    simp only [v22 g1, splice, coreS, Value.cells, Value.oneCell', Nat.reduceAdd, Nat.reduceSub, Nat.reduceMul, Nat.reduceLeDiff, Int.reduceEq, Nat.reduceEqDiff, drawS, treeS, H32Fs19]
    refine execT_fin fun hD xD => ?_
    simp only [coreS, Value.cells, Value.oneCell', Nat.reduceAdd, Nat.reduceSub, Nat.reduceMul, Nat.reduceLeDiff, Int.reduceEq, Nat.reduceEqDiff, H32Fs19]
    exact midK_mk (by kernel_rfl) ⟨rfl, rfl, xD⟩
  rintro f22 h28 ⟨f22a, f22b, x28⟩
  replace k1 := x28.get k1
  replace k2 := x28.get k2
  replace ok1 := ok1.ext x28
  replace ok2 := ok2.ext x28
  replace y := y.trans x28
  replace I1 := I1.ext x28
  replace I2 := I2.ext x28
  replace b3 := x28.get b3
  replace b4 := x28.get b4
  replace b5 := x28.get b5
  replace b19 := x28.get b19
  replace b20 := x28.get b20
  simp only [k1, k2, b3, b4, b5, b19, b20, f22a, f22b, splice, coreS, Value.cells, Value.oneCell', Nat.reduceAdd, Nat.reduceSub, Nat.reduceMul, Nat.reduceLeDiff, Int.reduceEq, Nat.reduceEqDiff, H32Fs19]
  refine WP_cut [51, 52, 175, 176, 177, 178, 179, 180] (fun g h' => g 51 = .string (suP (goodM g1) 7 8 1) ∧ g 52 = .int .i64 3 ∧ Ext h28 h') ?_ ?_
  · refine WP_tree (by kernel_rfl) sta_ext (.quiet 0 (.quiet 1 (.quiet 2 (.quiet 3 (.quiet 4 (.quiet 5 (.quiet 6 (.quiet 7 (.fin))))))))) (by kernel_rfl) rfl (by kernel_rfl) ?_
    simp only [k1, k2, b3, b4, b5, b19, b20, splice, coreS, Value.cells, Value.oneCell', Nat.reduceAdd, Nat.reduceSub, Nat.reduceMul, Nat.reduceLeDiff, Int.reduceEq, Nat.reduceEqDiff, drawS, treeS, H32Fs19]
    refine cQ_ext _ (fun h' x' => CallsH.mono (to49 7 8 h') fun v h'' q => ⟨q.1, q.2⟩) ?_
    simp only [rgV, k1, k2, b3, b4, b5, b19, b20, splice, coreS, Value.cells, Value.oneCell', Nat.reduceAdd, Nat.reduceSub, Nat.reduceMul, Nat.reduceLeDiff, Int.reduceEq, Nat.reduceEqDiff, drawS, treeS, H32Fs19]
    refine cQ_ext _ (fun h' x' => CallsH.mono (surely43 (goodM g1) 7 8 1 h' (ok1.ext x')) fun v h'' q => ⟨q.1, q.2⟩) ?_
    simp only [v23 g1, splice, coreS, Value.cells, Value.oneCell', Nat.reduceAdd, Nat.reduceSub, Nat.reduceMul, Nat.reduceLeDiff, Int.reduceEq, Nat.reduceEqDiff, drawS, treeS, H32Fs19]
    refine execT_fin fun hD xD => ?_
    simp only [coreS, Value.cells, Value.oneCell', Nat.reduceAdd, Nat.reduceSub, Nat.reduceMul, Nat.reduceLeDiff, Int.reduceEq, Nat.reduceEqDiff, H32Fs19]
    exact midK_mk (by kernel_rfl) ⟨rfl, rfl, xD⟩
  rintro f23 h29 ⟨f23a, f23b, x29⟩
  replace k1 := x29.get k1
  replace k2 := x29.get k2
  replace ok1 := ok1.ext x29
  replace ok2 := ok2.ext x29
  replace y := y.trans x29
  replace I1 := I1.ext x29
  replace I2 := I2.ext x29
  replace b3 := x29.get b3
  replace b4 := x29.get b4
  replace b5 := x29.get b5
  replace b19 := x29.get b19
  replace b20 := x29.get b20
  simp only [k1, k2, b3, b4, b5, b19, b20, f23a, f23b, splice, coreS, Value.cells, Value.oneCell', Nat.reduceAdd, Nat.reduceSub, Nat.reduceMul, Nat.reduceLeDiff, Int.reduceEq, Nat.reduceEqDiff, H32Fs19]
  clear hL hR2 f1a f1b f19a f19b f20a f20b f21a f21b f22a f22b f23a f23b u18 u20 u24 e1 e2
  refine execR_quiet [181, 182, 183, 184, 185, 186, 187, 188, 189, 190, 191, 192, 193, 194, 195, 196, 197, 198, 199, 200, 201, 202, 203, 204, 205, 206, 207, 208, 209, 210, 211, 212, 213, 214, 215, 216, 217, 218, 219, 220, 221, 222, 223, 224, 225, 226, 227, 228, 229, 230, 231, 232, 233, 234, 235, 236, 237, 238, 239, 240, 241, 242, 243, 244, 245, 246, 247, 248, 249, 250, 251, 252, 253, 254, 255, 256, 257, 258, 259, 260, 261, 262, 263, 264, 265, 266, 267, 268, 269, 270] (by kernel_rfl) (by kernel_rfl) fun g hg => ?_
  have f24 : g 270 = .bool false := by rw [hg]; kernel_rfl
  clear hg
  simp only [k1, k2, b3, b4, b5, b19, b20, f24, splice, coreS, Value.cells, Value.oneCell', Nat.reduceAdd, Nat.reduceSub, Nat.reduceMul, Nat.reduceLeDiff, Int.reduceEq, Nat.reduceEqDiff, H32Fs19]
  have hcr := ckr_of (m := goodM g1) (x := 3) (p := p) (q := q) (u := u) (opn_one g1 (by decide)) hp1 hp2 hp3 (run_lt good_ok (by decide) hp1) (by omega) (by omega)
  refine CallsH.mono (ckr36 (goodM g1) 3 (planS p) (planS q) _ ok1 (by rw [planS_size]; omega) (by rw [planS_size]; omega)) ?_
  rintro v h30 ⟨rfl, x30⟩
  replace k1 := x30.get k1
  replace k2 := x30.get k2
  replace ok1 := ok1.ext x30
  replace ok2 := ok2.ext x30
  replace y := y.trans x30
  replace I1 := I1.ext x30
  replace I2 := I2.ext x30
  replace b3 := x30.get b3
  replace b4 := x30.get b4
  replace b5 := x30.get b5
  replace b19 := x30.get b19
  replace b20 := x30.get b20
  simp only [k1, k2, b3, b4, b5, b19, b20, hcr.1, ratV, splice, coreS, Value.cells, Value.oneCell', Nat.reduceAdd, Nat.reduceSub, Nat.reduceMul, Nat.reduceLeDiff, Int.reduceEq, Nat.reduceEqDiff, H32Fs19]
  refine stK_abs push_new (by simp) fun h31 g31 u31 => ?_
  have x31 : Ext h30 h31 := u31.ext ((Ext.refl h30).push _) (Nat.le_refl _)
  replace k1 := x31.get k1
  replace k2 := x31.get k2
  replace ok1 := ok1.ext x31
  replace ok2 := ok2.ext x31
  replace y := y.trans x31
  replace I1 := I1.ext x31
  replace I2 := I2.ext x31
  replace b3 := x31.get b3
  replace b4 := x31.get b4
  replace b5 := x31.get b5
  replace b19 := x31.get b19
  replace b20 := x31.get b20
  simp only [k1, k2, b3, b4, b5, b19, b20, splice, coreS, Value.cells, Value.oneCell', Nat.reduceAdd, Nat.reduceSub, Nat.reduceMul, Nat.reduceLeDiff, Int.reduceEq, Nat.reduceEqDiff, H32Fs19]
  refine WP_tree (by kernel_rfl) sta_ext (.quiet 0 (.quiet 1 (.quiet 2 (.quiet 3 (.quiet 4 (.quiet 5 (.quiet 6 (.quiet 7 (.quiet 8 (.quiet 9 (.quiet 10 (.quiet 11 (.quiet 12 (.quiet 13 (.quiet 14 (.quiet 15 (.quiet 16 (.quiet 17 (.quiet 18 (.quiet 19 (.keep 20 (.quiet 21 (.quiet 22 (.quiet 23 (.quiet 24 (.quiet 25 (.keep 26 (.quiet 27 (.quiet 28 (.quiet 29 (.quiet 30 (.quiet 31 (.quiet 32 (.quiet 33 (.quiet 34 (.quiet 35 (.quiet 36 (.quiet 37 (.quiet 38 (.quiet 39 (.quiet 40 (.quiet 41 (.quiet 42 (.quiet 43 (.quiet 44 (.quiet 45 (.quiet 46 (.quiet 47 (.quiet 48 (.quiet 49 (.quiet 50 (.quiet 51 (.quiet 52 (.quiet 53 (.fin))))))))))))))))))))))))))))))))))))))))))))))))))))))) (by kernel_rfl) rfl (by kernel_rfl) ?_
  simp only [k1, k2, b3, b4, b5, b19, b20, splice, decide_true, coreS, Value.cells, Value.oneCell', Nat.reduceAdd, Nat.reduceSub, Nat.reduceMul, Nat.reduceLeDiff, Int.reduceEq, Nat.reduceEqDiff, drawS, treeS, H32Fs19]
  have hx31 := y.size
  refine execT_keep fun hA xA => ?_
  simp only [splice, coreS, Value.cells, Value.oneCell', Nat.reduceAdd, Nat.reduceSub, Nat.reduceMul, Nat.reduceLeDiff, Int.reduceEq, Nat.reduceEqDiff, drawS, treeS, H32Fs19]
  refine ⟨(Ext.refl hA).push _, ?_⟩
  refine cQ_ext _ (fun h' x' => CallsH.mono (of54 _ h') fun v h'' q => ⟨q.1, by rw [q.2]; exact Ext.refl _⟩) ?_
  simp only [coreS, Value.cells, Value.oneCell', Nat.reduceAdd, Nat.reduceSub, Nat.reduceMul, Nat.reduceLeDiff, Int.reduceEq, Nat.reduceEqDiff, drawS, treeS, H32Fs19]
  refine cQ_ext _ (fun h' x' => CallsH.mono (ints32 a1 (some ⟨hA.size, 0, none⟩) _ _ 8 8 _ [0, 0, -1, -1, -1, -1, -1, -1] h' (I1.ext ((xA.push _).trans x')) (IntsV.block (xs := [0, 0, -1, -1, -1, -1, -1, -1]) (x'.get push_new)) (by show (8 : Nat) ≤ _; omega) (by omega)) fun v h'' q => ⟨q.1, by rw [q.2]; exact Ext.refl _⟩) ?_
  simp only [decide_true, coreS, Value.cells, Value.oneCell', Nat.reduceAdd, Nat.reduceSub, Nat.reduceMul, Nat.reduceLeDiff, Int.reduceEq, Nat.reduceEqDiff, drawS, treeS, H32Fs19]
  refine execT_keep fun hB xB => ?_
  simp only [splice, coreS, Value.cells, Value.oneCell', Nat.reduceAdd, Nat.reduceSub, Nat.reduceMul, Nat.reduceLeDiff, Int.reduceEq, Nat.reduceEqDiff, drawS, treeS, H32Fs19]
  refine ⟨(Ext.refl hB).push _, ?_⟩
  refine cQ_ext _ (fun h' x' => CallsH.mono (of54 _ h') fun v h'' q => ⟨q.1, by rw [q.2]; exact Ext.refl _⟩) ?_
  simp only [coreS, Value.cells, Value.oneCell', Nat.reduceAdd, Nat.reduceSub, Nat.reduceMul, Nat.reduceLeDiff, Int.reduceEq, Nat.reduceEqDiff, drawS, treeS, H32Fs19]
  refine cQ_ext _ (fun h' x' => CallsH.mono (ints32 a2 (some ⟨hB.size, 0, none⟩) _ _ 8 8 _ [0, 0, 0, 0, 1, 1, 0, 0] h' (I2.ext ((((xA.push _).trans xB).push _).trans x')) (IntsV.block (xs := [0, 0, 0, 0, 1, 1, 0, 0]) (x'.get push_new)) (by show (8 : Nat) ≤ _; omega) (by omega)) fun v h'' q => ⟨q.1, by rw [q.2]; exact Ext.refl _⟩) ?_
  obtain ⟨hF, hhF⟩ : ∃ hF, hF = hB.push (.cells (Eng.ints [0, 0, 0, 0, 1, 1, 0, 0]).toArray 3) := ⟨_, rfl⟩
  have xF : Ext h31 hF := by rw [hhF]; exact ((xA.push _).trans xB).push _
  have b3F := xF.get b3
  have b5F := xF.get b5
  have b19F := xF.get b19
  simp only [Eng.ints, List.map] at hhF
  rw [← hhF]
  simp only [decide_true, b3F, b5F, b19F, splice, coreS, Value.cells, Value.oneCell', Nat.reduceAdd, Nat.reduceSub, Nat.reduceMul, Nat.reduceLeDiff, Int.reduceEq, Nat.reduceEqDiff, drawS, treeS, H32Fs19]
  refine cQ_ext _ (fun h' x' => CallsH.mono (by55 1 1 h') fun v h'' q => ⟨q.1, q.2⟩) ?_
  simp only [coreS, Value.cells, Value.oneCell', Nat.reduceAdd, Nat.reduceSub, Nat.reduceMul, Nat.reduceLeDiff, Int.reduceEq, Nat.reduceEqDiff, drawS, treeS, H32Fs19]
  refine eq2Q (u := 45) (b := true) (by kernel_rfl) (xs := [((1 : Nat) : Int), ((1 : Nat) : Int)]) (ys := [1, 1]) rfl rfl rfl rfl (by decide) ?_
  simp only [b3F, b5F, b19F, splice, decide_true, coreS, Value.cells, Value.oneCell', Nat.reduceAdd, Nat.reduceSub, Nat.reduceMul, Nat.reduceLeDiff, Int.reduceEq, Nat.reduceEqDiff, drawS, treeS, H32Fs19]
  refine eq2Q (u := 45) (b := true) (by kernel_rfl) (xs := [((1 : Nat) : Int), ((1 : Nat) : Int)]) (ys := [((1 : Nat) : Int), ((1 : Nat) : Int)]) rfl rfl rfl rfl (by decide) ?_
  simp only [b3F, b5F, b19F, splice, decide_true, coreS, Value.cells, Value.oneCell', Nat.reduceAdd, Nat.reduceSub, Nat.reduceMul, Nat.reduceLeDiff, Int.reduceEq, Nat.reduceEqDiff, drawS, treeS, H32Fs19]
  refine cQ_ext _ (fun h' x' => CallsH.mono (to49 6 7 h') fun v h'' q => ⟨q.1, q.2⟩) ?_
  simp only [rgV, coreS, Value.cells, Value.oneCell', Nat.reduceAdd, Nat.reduceSub, Nat.reduceMul, Nat.reduceLeDiff, Int.reduceEq, Nat.reduceEqDiff, drawS, treeS, H32Fs19]
  refine eq2Q (u := 54) (b := true) (by kernel_rfl) (xs := [6, 7]) (ys := [6, 7]) rfl rfl rfl rfl (by decide) ?_
  simp only [b3F, b5F, b19F, splice, decide_true, coreS, Value.cells, Value.oneCell', Nat.reduceAdd, Nat.reduceSub, Nat.reduceMul, Nat.reduceLeDiff, Int.reduceEq, Nat.reduceEqDiff, drawS, treeS, H32Fs19]
  refine execT_fin fun hD xD => ?_
  simp only [decide_true, coreS, Value.cells, Value.oneCell', Nat.reduceAdd, Nat.reduceSub, Nat.reduceMul, Nat.reduceLeDiff, Int.reduceEq, Nat.reduceEqDiff, H32Fs19]
  exact y.trans (xF.trans xD)
end Go.Proofs.YtafemfjhflfdeaaDoor
end
