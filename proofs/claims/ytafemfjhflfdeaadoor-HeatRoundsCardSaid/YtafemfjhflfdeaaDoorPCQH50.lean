/- HeatSures returns true. -/
import Derived.Test.YtafemfjhflfdeaaDoorPCQH49
namespace Go.Proofs.YtafemfjhflfdeaaDoor
open Go Go.Proofs Go.Eng Go.Run Tab
set_option maxRecDepth 100000
set_option linter.unusedSimpArgs false
set_option linter.unusedVariables false
set_option linter.defProp false
set_option maxHeartbeats 8000000
set_option linter.defProp false
def H50Fs7 := (And.intro (And.intro (And.intro @agg2 (And.intro @agg24 @agg54)) (And.intro @fo54_0 (And.intro @inf2 @inf24))) (And.intro (And.intro @inf54 (And.intro @sz2 @sz24)) (And.intro @sz54 (And.intro @zero54 @Tryd.underlying9))))
def H50Fs44 := (And.intro (And.intro @agg24 (And.intro @agg54 @inf24)) (And.intro @inf54 (And.intro @sz24 @sz54)))
theorem ne2W {er : Env} {h : Eng.Heap} {ty yt u : TypeId} {x y : Operand} (hfl : ((Pt.pr.ty u).map fun t => t.fl) = some (List.replicate 2 .i)) {xs ys : List Int} (h2 : xs.length = 2) (h2' : ys.length = 2) {b : Bool} {K : Value → Eng.Heap → Prop} (hx : ev er x = .agg (Eng.ints xs).toArray) (hy : ev er y = .agg (Eng.ints ys).toArray) (hb : (!decide (xs = ys)) = b) (H : K (.bool b) h) : opSem Tryd.prog (.binOp .neq u x y yt) ty er h K := by
  obtain ⟨ti, hti, hfl⟩ := Option.map_eq_some_iff.1 hfl
  refine eqAggW Pt.ok hti (a := .agg (xs.map (T.int .i64))) (b := .agg (ys.map (T.int .i64))) (r := decide (xs = ys)) ?_ ?_ ?_ (.inr rfl) hx hy (by simpa [hb] using H)
  · simp only [VR]; exact ⟨_, rfl, by simpa using vl_ints xs⟩
  · simp only [VR]; exact ⟨_, rfl, by simpa using vl_ints ys⟩
  · have := beqF_ints xs ys (by omega)
    unfold eqAgg
    rw [hfl]
    rw [h2] at this
    simpa [List.replicate_succ] using this
theorem srt_le {a b : Nat} (h : a ≤ b) : OV.srt a b = (a, b) := by rw [OV.srt, Nat.min_eq_left h, Nat.max_eq_right h]
theorem surelyE44 (m : MV) (lo hi k : Int) (h : Eng.Heap) (hm : m.ok h) :
    CallsH Tryd.prog 44 #[m.val, rgV lo hi, .int .i64 k] h (fun v h' => v = .int .i64 (suE m lo hi k) ∧ Ext h h') := by
  have hval : Value.agg #[.slice m.a m.casts.length m.ca, .slice m.b m.waits.length m.cb, .int .i64 m.lo, .int .i64 m.hi] = m.val := rfl
  have q0 := pn0 (h := h) (o := .cells #[.slice m.a m.casts.length m.ca, .slice m.b m.waits.length m.cb, .int .i64 m.lo, .int .i64 m.hi] 24) (o' := .cells #[.int .i64 lo, .int .i64 hi] 54)
  have q1 := pn1 (h := h) (o := .cells #[.slice m.a m.casts.length m.ca, .slice m.b m.waits.length m.cb, .int .i64 m.lo, .int .i64 m.hi] 24) (o' := .cells #[.int .i64 lo, .int .i64 hi] 54)
  have x0 : Ext h ((h.push (.cells #[.slice m.a m.casts.length m.ca, .slice m.b m.waits.length m.cb, .int .i64 m.lo, .int .i64 m.hi] 24)).push (.cells #[.int .i64 lo, .int .i64 hi] 54)) := ((Ext.refl h).push _).push _
  (refine CallsH_of_exec Tryd.func44 rfl bod44 ?_; simp only [Tryd.ntmps44, Tryd.results44, coreS, stK_some, splice, Value.cells, Value.oneCell', Nat.reduceAdd, Nat.reduceSub, Nat.reduceMul, Nat.reduceLeDiff, Int.reduceEq, Nat.reduceEqDiff, H50Fs44])
  try simp only [show ¬ (h.size = h.size + 1) by omega, if_false, q0, q1, splice, coreS, Value.cells, Value.oneCell', Nat.reduceAdd, Nat.reduceSub, Nat.reduceMul, Nat.reduceLeDiff, Int.reduceEq, Nat.reduceEqDiff, H50Fs44]
  try rw [hval]
  refine CallsH.mono (range78 m lo hi _ (hm.ext x0)) ?_
  rintro v h1 ⟨rfl, x1⟩
  have y1 := x0.trans x1
  have b0 := x1.get q0
  have b1 := x1.get q1
  by_cases e0 : rgE m lo hi = 0
  case neg =>
    have eS : suE m lo hi k = rgE m lo hi := by rw [suE, if_pos e0]
    simp only [e0, b0, b1, decide_false, Bool.not_false, splice, coreS, Value.cells, Value.oneCell', Nat.reduceAdd, Nat.reduceSub, Nat.reduceMul, Nat.reduceLeDiff, Int.reduceEq, Nat.reduceEqDiff, H50Fs44]
    try rw [hval]
    refine CallsH.mono (range78 m lo hi h1 (hm.ext y1)) ?_
    rintro v h2 ⟨rfl, x2⟩
    simp only [coreS, Value.cells, Value.oneCell', Nat.reduceAdd, Nat.reduceSub, Nat.reduceMul, Nat.reduceLeDiff, Int.reduceEq, Nat.reduceEqDiff, H50Fs44]
    exact ⟨by rw [eS], y1.trans x2⟩
  obtain ⟨i, j, rfl, rfl, hij, hj, h16, gd, hin⟩ := rg_in e0
  have eS : suE m i j k = fromE m (i, j) k := by rw [suE, if_neg (by simpa using e0)]; rfl
  rw [eS]
  by_cases k1 : k < 0
  case pos =>
    simp only [e0, b0, b1, k1, gd_none, decide_true, Bool.not_true, splice, coreS, Value.cells, Value.oneCell', Nat.reduceAdd, Nat.reduceSub, Nat.reduceMul, Nat.reduceLeDiff, Int.reduceEq, Nat.reduceEqDiff, H50Fs44]
    exact ⟨by rw [fromE, if_pos (by omega)], y1⟩
  by_cases k2 : 30 < k
  case pos =>
    simp only [e0, b0, b1, k1, k2, gd_none, decide_true, decide_false, Bool.not_true, splice, coreS, Value.cells, Value.oneCell', Nat.reduceAdd, Nat.reduceSub, Nat.reduceMul, Nat.reduceLeDiff, Int.reduceEq, Nat.reduceEqDiff, H50Fs44]
    exact ⟨by rw [fromE, if_pos (by omega)], y1⟩
  obtain ⟨c, rfl⟩ : ∃ c : Nat, k = c := ⟨k.toNat, by omega⟩
  simp only [e0, b0, b1, k1, k2, gd_none, decide_true, decide_false, Bool.not_true, splice, coreS, Value.cells, Value.oneCell', Nat.reduceAdd, Nat.reduceSub, Nat.reduceMul, Nat.reduceLeDiff, Int.reduceEq, Nat.reduceEqDiff, H50Fs44]
  try rw [hval]
  have hn1 : 1 ≤ m.casts.length := by omega
  refine CallsH.mono (sure46 m gd hn1 h16 i j (by omega) hj c (by omega) h1 (hm.ext y1)) ?_
  rintro v h2 ⟨rfl, x2⟩
  rw [sqV, srt_le hij]
  have e2 : fromE m (i, j) c = if (m.ov.lw c (i, j)).isSome then 0 else 22 := by rw [fromE, if_neg (by omega)]; rfl
  rw [e2]
  by_cases hl : enc (m.ov.lw c (i, j)) < 0
  · rw [(enc_neg _).1 hl]
    simp only [hl, decide_true, coreS, Value.cells, Value.oneCell', Nat.reduceAdd, Nat.reduceSub, Nat.reduceMul, Nat.reduceLeDiff, Int.reduceEq, Nat.reduceEqDiff, H50Fs44]
    exact y1.trans x2
  · have : (m.ov.lw c (i, j)).isSome = true := by
      cases hh : (m.ov.lw c (i, j)).isSome with
      | true => rfl
      | false => exact absurd ((enc_neg _).2 hh) hl
    rw [this]
    simp only [hl, decide_false, coreS, Value.cells, Value.oneCell', Nat.reduceAdd, Nat.reduceSub, Nat.reduceMul, Nat.reduceLeDiff, Int.reduceEq, Nat.reduceEqDiff, H50Fs44]
    exact y1.trans x2
theorem sures7 (m : MV) (x : Int) (y : Int) (s : ByteArray) (k : Int) (h : Eng.Heap) (hc : IntsV h m.a m.casts.length m.casts) (hw : IntsV h m.b m.waits.length m.waits) (hs : s.size ≤ 9223372036854775807) :
    CallsH Tryd.prog 7 #[m.val, .agg #[.int .i64 x, .int .i64 y], .string s, .int .i64 k] h (fun v h' => v = .bool true ∧ Ext h h') := by
  have hval : Value.agg #[.slice m.a m.casts.length m.ca, .slice m.b m.waits.length m.cb, .int .i64 m.lo, .int .i64 m.hi] = m.val := rfl
  have q0 := pn0 (h := h) (o := .cells #[.slice m.a m.casts.length m.ca, .slice m.b m.waits.length m.cb, .int .i64 m.lo, .int .i64 m.hi] 24) (o' := .cells #[.int .i64 x, .int .i64 y] 54)
  have q1 := pn1 (h := h) (o := .cells #[.slice m.a m.casts.length m.ca, .slice m.b m.waits.length m.cb, .int .i64 m.lo, .int .i64 m.hi] 24) (o' := .cells #[.int .i64 x, .int .i64 y] 54)
  have y0 : Ext h ((h.push (.cells #[.slice m.a m.casts.length m.ca, .slice m.b m.waits.length m.cb, .int .i64 m.lo, .int .i64 m.hi] 24)).push (.cells #[.int .i64 x, .int .i64 y] 54)) := ((Ext.refl h).push _).push _
  have works : ∀ {h2 : Eng.Heap}, Ext h h2 → CallsH Tryd.prog 19 #[] h2 (fun v h' => v = .bool true ∧ Ext h h') := fun x => CallsH.mono (works19 _) fun v h' q => ⟨q.1, x.trans q.2⟩
  (refine CallsH_of_exec Tryd.func7 rfl bod7 ?_; simp only [Tryd.ntmps7, Tryd.results7, coreS, stK_some, splice, Value.cells, Value.oneCell', Nat.reduceAdd, Nat.reduceSub, Nat.reduceMul, Nat.reduceLeDiff, Int.reduceEq, Nat.reduceEqDiff, H50Fs7])
  try simp only [show ¬ (h.size = h.size + 1) by omega, if_false, q0, q1, splice, coreS, Value.cells, Value.oneCell', Nat.reduceAdd, Nat.reduceSub, Nat.reduceMul, Nat.reduceLeDiff, Int.reduceEq, Nat.reduceEqDiff, H50Fs7]
  try rw [hval]
  have b0 := q0
  have br0 := q1
  refine CallsH.mono (great17 m _) ?_
  rintro v h1 ⟨rfl, x1⟩
  have y1 := y0.trans x1
  have b1 := x1.get b0
  have br1 := x1.get br0
  by_cases hg : 24 < m.casts.length ∨ 24 < m.waits.length
  · simp only [hg, decide_true, gd_none, coreS, Value.cells, Value.oneCell', Nat.reduceAdd, Nat.reduceSub, Nat.reduceMul, Nat.reduceLeDiff, Int.reduceEq, Nat.reduceEqDiff, H50Fs7]
    refine CallsH.mono (works y1) ?_
    rintro v hW ⟨rfl, xW⟩
    simp only [coreS, Value.cells, Value.oneCell', Nat.reduceAdd, Nat.reduceSub, Nat.reduceMul, Nat.reduceLeDiff, Int.reduceEq, Nat.reduceEqDiff, H50Fs7]
    exact xW
  have hm : m.ok h := ⟨hc, hw, by omega, by omega⟩
  by_cases hl : 600 < s.size
  case pos =>
    simp only [hg, decide_false, gd_none, coreS, Value.cells, Value.oneCell', Nat.reduceAdd, Nat.reduceSub, Nat.reduceMul, Nat.reduceLeDiff, Int.reduceEq, Nat.reduceEqDiff, H50Fs7]
    refine CallsH.mono (long18 s _) ?_
    rintro v h2 ⟨rfl, rfl⟩
    simp only [hl, decide_true, coreS, Value.cells, Value.oneCell', Nat.reduceAdd, Nat.reduceSub, Nat.reduceMul, Nat.reduceLeDiff, Int.reduceEq, Nat.reduceEqDiff, H50Fs7]
    refine CallsH.mono (works y1) ?_
    rintro v hW ⟨rfl, xW⟩
    simp only [coreS, Value.cells, Value.oneCell', Nat.reduceAdd, Nat.reduceSub, Nat.reduceMul, Nat.reduceLeDiff, Int.reduceEq, Nat.reduceEqDiff, H50Fs7]
    exact xW
  simp only [b1, br1, hg, decide_false, gd_none, splice, coreS, Value.cells, Value.oneCell', Nat.reduceAdd, Nat.reduceSub, Nat.reduceMul, Nat.reduceLeDiff, Int.reduceEq, Nat.reduceEqDiff, H50Fs7]
  refine CallsH.mono (long18 s _) ?_
  rintro v hS ⟨rfl, rfl⟩
  simp only [b1, br1, hl, decide_false, splice, coreS, Value.cells, Value.oneCell', Nat.reduceAdd, Nat.reduceSub, Nat.reduceMul, Nat.reduceLeDiff, Int.reduceEq, Nat.reduceEqDiff, H50Fs7]
  try rw [hval]
  obtain ⟨sv, hsv⟩ : ∃ v, raV m x y s = v := ⟨_, rfl⟩
  obtain ⟨se, hse⟩ : ∃ v, raE m x y s = v := ⟨_, rfl⟩
  refine CallsH.mono (runAll41 m x y s _ (hm.ext y1) hs) ?_
  rintro v h2 ⟨rfl, x2⟩
  have y2 := y1.trans x2
  have b2 := x2.get b1
  have br2 := x2.get br1
  simp only [b2, br2, hsv, hse, spV, splice, coreS, Value.cells, Value.oneCell', Nat.reduceAdd, Nat.reduceSub, Nat.reduceMul, Nat.reduceLeDiff, Int.reduceEq, Nat.reduceEqDiff, H50Fs7]
  refine stK_abs push_new (by simp) fun h3 g3 u3 => ?_
  simp only [splice] at g3
  have x3 : Ext h2 h3 := u3.ext ((Ext.refl h2).push _) (Nat.le_refl _)
  have y3 := y2.trans x3
  have b3 := x3.get b2
  have br3 := x3.get br2
  have ba3 := g3
  simp only [b3, br3, ba3, splice, coreS, Value.cells, Value.oneCell', Nat.reduceAdd, Nat.reduceSub, Nat.reduceMul, Nat.reduceLeDiff, Int.reduceEq, Nat.reduceEqDiff, H50Fs7]
  try rw [hval]
  refine CallsH.mono (runAll42 m x y s _ (hm.ext y3) hs) ?_
  rintro v h4 ⟨rfl, x4⟩
  have y4 := y3.trans x4
  have b4 := x4.get b3
  have br4 := x4.get br3
  have ba4 := x4.get ba3
  simp only [b4, br4, ba4, hsv, hse, spV, splice, coreS, Value.cells, Value.oneCell', Nat.reduceAdd, Nat.reduceSub, Nat.reduceMul, Nat.reduceLeDiff, Int.reduceEq, Nat.reduceEqDiff, H50Fs7]
  refine stK_abs push_new (by simp) fun h5 g5 u5 => ?_
  simp only [splice] at g5
  have x5 : Ext h4 h5 := u5.ext ((Ext.refl h4).push _) (Nat.le_refl _)
  have y5 := y4.trans x5
  have b5 := x5.get b4
  have br5 := x5.get br4
  have ba5 := x5.get ba4
  have bb5 := g5
  simp only [b5, br5, ba5, bb5, splice, coreS, Value.cells, Value.oneCell', Nat.reduceAdd, Nat.reduceSub, Nat.reduceMul, Nat.reduceLeDiff, Int.reduceEq, Nat.reduceEqDiff, H50Fs7]
  try rw [hval]
  refine CallsH.mono (surely43 m x y k _ (hm.ext y5)) ?_
  rintro v h6 ⟨rfl, x6⟩
  have y6 := y5.trans x6
  have b6 := x6.get b5
  have br6 := x6.get br5
  have ba6 := x6.get ba5
  have bb6 := x6.get bb5
  simp only [b6, br6, ba6, bb6, splice, coreS, Value.cells, Value.oneCell', Nat.reduceAdd, Nat.reduceSub, Nat.reduceMul, Nat.reduceLeDiff, Int.reduceEq, Nat.reduceEqDiff, H50Fs7]
  try rw [hval]
  refine CallsH.mono (surelyE44 m x y k _ (hm.ext y6)) ?_
  rintro v h7 ⟨rfl, x7⟩
  have y7 := y6.trans x7
  have b7 := x7.get b6
  have br7 := x7.get br6
  have ba7 := x7.get ba6
  have bb7 := x7.get bb6
  simp only [b7, br7, ba7, bb7, splice, coreS, Value.cells, Value.oneCell', Nat.reduceAdd, Nat.reduceSub, Nat.reduceMul, Nat.reduceLeDiff, Int.reduceEq, Nat.reduceEqDiff, H50Fs7]
  refine ne2W (u := 54) (b := false) (by kernel_rfl) (xs := [(sv.1 : Int), (sv.2 : Int)]) (ys := [(sv.1 : Int), (sv.2 : Int)]) rfl rfl rfl rfl (by simp) ?_
  by_cases e0 : suE m x y k = 0
  case neg =>
    have eP : suP m x y k = ⟨#[]⟩ := by rw [suP, if_neg e0]
    simp only [b7, br7, ba7, bb7, e0, eP, decide_true, decide_false, Bool.not_true, Bool.not_false, splice, coreS, Value.cells, Value.oneCell', Nat.reduceAdd, Nat.reduceSub, Nat.reduceMul, Nat.reduceLeDiff, Int.reduceEq, Nat.reduceEqDiff, H50Fs7]
    refine CallsH.mono (works y7) ?_
    rintro v hW ⟨rfl, xW⟩
    simp only [coreS, Value.cells, Value.oneCell', Nat.reduceAdd, Nat.reduceSub, Nat.reduceMul, Nat.reduceLeDiff, Int.reduceEq, Nat.reduceEqDiff, H50Fs7]
    exact xW
  have hrg : rgE m x y = 0 := by
    unfold suE at e0
    split at e0
    · rename_i h1; exact absurd e0 h1
    · rename_i h1; exact Classical.not_not.1 h1
  obtain ⟨i, j, rfl, rfl, hij, hj, h16, gd, hin⟩ := rg_in hrg
  have eS : suE m i j k = fromE m (i, j) k := by rw [suE, if_neg (by simpa using hrg)]; rfl
  have eF := e0
  rw [eS] at eF
  unfold fromE at eF
  split at eF
  · cases eF
  rename_i hk
  obtain ⟨c, rfl⟩ : ∃ c : Nat, k = c := ⟨k.toNat, by omega⟩
  rw [Int.toNat_natCast] at eF
  cases hlw : m.ov.lw c (i, j) with
  | none => rw [hlw] at eF; cases eF
  | some x9 => ?_
  have hc0 : chk m = 0 := by
    unfold rgE at hrg
    split at hrg
    · rename_i h1; exact absurd hrg h1
    · rename_i h1; exact Classical.not_not.1 h1
  have hok := gd.ok
  have eP : suP m i j c = planS (m.ov.pl c (i, j)) := by rw [suP, if_pos e0]; rfl
  obtain ⟨⟨t0, ht0⟩, hpc, hpl⟩ := OV.pl_run hok hin hlw
  have hxb2 := (OV.span_bound hok hin hij hlw).1
  have hkn : c * (m.ov.n - 1) ≤ 30 * 15 := Nat.mul_le_mul (by omega) (by show m.casts.length - 1 ≤ 15; omega)
  have hQ5 : (m.ov.pl c (i, j)).length ≤ 500 := by omega
  generalize m.ov.pl c (i, j) = Q at eP ht0 hpc hpl hQ5
  obtain ⟨r1, r2⟩ := ra_s hc0 hij hj hQ5 ht0
  obtain ⟨u, hu, _, _⟩ := OV.run_between hok Q i i j t0 (Nat.le_refl _) hij hj ht0
  have qs : (planS Q).size ≤ 9223372036854775807 := by rw [planS_size]; omega
  have qz : ((planS Q).size : Int) - c = (x9 : Int) := by rw [planS_size]; omega
  have qv : sqV m c i j = (x9 : Int) := by rw [sqV, srt_le hij, hlw]; rfl
  simp only [b7, br7, ba7, bb7, e0, eP, decide_true, Bool.not_true, splice, coreS, Value.cells, Value.oneCell', Nat.reduceAdd, Nat.reduceSub, Nat.reduceMul, Nat.reduceLeDiff, Int.reduceEq, Nat.reduceEqDiff, H50Fs7]
  try rw [hval]
  refine CallsH.mono (runAll42 m i j (planS Q) _ (hm.ext y7) qs) ?_
  rintro v h8 ⟨rfl, x8⟩
  have y8 := y7.trans x8
  have b8 := x8.get b7
  have br8 := x8.get br7
  have ba8 := x8.get ba7
  have bb8 := x8.get bb7
  simp only [b8, br8, ba8, bb8, r1, r2, spV, splice, coreS, Value.cells, Value.oneCell', Nat.reduceAdd, Nat.reduceSub, Nat.reduceMul, Nat.reduceLeDiff, Int.reduceEq, Nat.reduceEqDiff, H50Fs7]
  try rw [hval]
  refine CallsH.mono (runOf45 m i (planS Q) _ gd (hm.ext y8) (by omega) (lets_planS Q) (by rw [planS_size]; omega)) ?_
  rintro v h9 ⟨rfl, x9⟩
  have y9 := y8.trans x9
  have b9 := x9.get b8
  have br9 := x9.get br8
  have ba9 := x9.get ba8
  have bb9 := x9.get bb8
  rw [bits_planS, hu, hpc]
  simp only [b9, br9, ba9, bb9, runOfV, r1, qz, decide_true, Bool.not_true, splice, coreS, Value.cells, Value.oneCell', Nat.reduceAdd, Nat.reduceSub, Nat.reduceMul, Nat.reduceLeDiff, Int.reduceEq, Nat.reduceEqDiff, H50Fs7]
  repeat (refine And.intro (by first | omega | (rw [inK_i64]; omega) | rfl | assumption | (decide)) ?_)
  try simp only [b9, br9, ba9, bb9, qz, decide_true, splice, coreS, Value.cells, Value.oneCell', Nat.reduceAdd, Nat.reduceSub, Nat.reduceMul, Nat.reduceLeDiff, Int.reduceEq, Nat.reduceEqDiff, H50Fs7]
  try rw [hval]
  refine CallsH.mono (sure46 m gd (by omega) h16 i j (by omega) hj c (by omega) _ (hm.ext y9)) ?_
  rintro v h10 ⟨rfl, x10⟩
  have y10 := y9.trans x10
  have b10 := x10.get b9
  have br10 := x10.get br9
  have ba10 := x10.get ba9
  have bb10 := x10.get bb9
  simp only [b10, br10, ba10, bb10, qv, decide_true, splice, coreS, Value.cells, Value.oneCell', Nat.reduceAdd, Nat.reduceSub, Nat.reduceMul, Nat.reduceLeDiff, Int.reduceEq, Nat.reduceEqDiff, H50Fs7]
  refine CallsH.mono (works y10) ?_
  rintro v hW ⟨rfl, xW⟩
  simp only [coreS, Value.cells, Value.oneCell', Nat.reduceAdd, Nat.reduceSub, Nat.reduceMul, Nat.reduceLeDiff, Int.reduceEq, Nat.reduceEqDiff, H50Fs7]
  exact xW
end Go.Proofs.YtafemfjhflfdeaaDoor
