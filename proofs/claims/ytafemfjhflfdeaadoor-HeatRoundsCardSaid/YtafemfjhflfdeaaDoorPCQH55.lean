/- Rate, and HeatRounds returns true. -/
import Derived.Test.YtafemfjhflfdeaaDoorPCQH54
import Derived.Test.YtafemfjhflfdeaaDoorPCQH50
namespace Go.Proofs.YtafemfjhflfdeaaDoor
open Go Go.Proofs Go.Eng Go.Run Tab
set_option maxRecDepth 100000
set_option linter.unusedSimpArgs false
set_option linter.unusedVariables false
set_option linter.defProp false
set_option maxHeartbeats 8000000
set_option linter.defProp false
def H55Fs6 := (And.intro (And.intro @agg24 (And.intro @agg45 @inf24)) (And.intro (And.intro @inf45 @sz24) (And.intro @sz45 @zero45)))
def H55Fs38 := (And.intro (And.intro (And.intro @agg24 @agg45) (And.intro @inf24 @inf45)) (And.intro (And.intro @okf45 @sz24) (And.intro @sz45 @zero45)))
theorem rate38 (m : MV) (x : Int) (h : Eng.Heap) (hm : m.ok h) :
    CallsH Tryd.prog 38 #[m.val, .int .i64 x] h (fun v h' => v = .tuple #[ratV (rtV m x), .int .i64 (roE m x)] ∧ Ext h h') := by
  have hval : Value.agg #[.slice m.a m.casts.length m.ca, .slice m.b m.waits.length m.cb, .int .i64 m.lo, .int .i64 m.hi] = m.val := rfl
  have q0 := pn0 (h := h) (o := .cells #[.slice m.a m.casts.length m.ca, .slice m.b m.waits.length m.cb, .int .i64 m.lo, .int .i64 m.hi] 24) (o' := .cells #[.int .i64 0, .int .i64 0] 45)
  have q1 := pn1 (h := h) (o := .cells #[.slice m.a m.casts.length m.ca, .slice m.b m.waits.length m.cb, .int .i64 m.lo, .int .i64 m.hi] 24) (o' := .cells #[.int .i64 0, .int .i64 0] 45)
  have x0 : Ext h ((h.push (.cells #[.slice m.a m.casts.length m.ca, .slice m.b m.waits.length m.cb, .int .i64 m.lo, .int .i64 m.hi] 24)).push (.cells #[.int .i64 0, .int .i64 0] 45)) := ((Ext.refl h).push _).push _
  (refine CallsH_of_exec Tryd.func38 rfl bod38 ?_; simp only [Tryd.ntmps38, Tryd.results38, coreS, stK_some, splice, Value.cells, Value.oneCell', Nat.reduceAdd, Nat.reduceSub, Nat.reduceMul, Nat.reduceLeDiff, Int.reduceEq, Nat.reduceEqDiff, H55Fs38])
  try simp only [show ¬ (h.size = h.size + 1) by omega, if_false, q0, q1, splice, coreS, Value.cells, Value.oneCell', Nat.reduceAdd, Nat.reduceSub, Nat.reduceMul, Nat.reduceLeDiff, Int.reduceEq, Nat.reduceEqDiff, H55Fs38]
  try rw [hval]
  refine CallsH.mono (roundE40 m x _ (hm.ext x0)) ?_
  rintro v h1 ⟨rfl, x1⟩
  have y1 := x0.trans x1
  have b0 := x1.get q0
  have b1 := x1.get q1
  have hz := lt_of_get b1
  by_cases e0 : roE m x = 0
  case neg =>
    simp only [e0, b0, b1, decide_false, Bool.not_false, splice, coreS, Value.cells, Value.oneCell', Nat.reduceAdd, Nat.reduceSub, Nat.reduceMul, Nat.reduceLeDiff, Int.reduceEq, Nat.reduceEqDiff, H55Fs38]
    try rw [hval]
    refine CallsH.mono (roundE40 m x h1 (hm.ext y1)) ?_
    rintro v h2 ⟨rfl, x2⟩
    have c1 := x2.get b1
    simp only [c1, splice, coreS, Value.cells, Value.oneCell', Nat.reduceAdd, Nat.reduceSub, Nat.reduceMul, Nat.reduceLeDiff, Int.reduceEq, Nat.reduceEqDiff, H55Fs38]
    refine stK_abs c1 (by simp) fun h3 g3 u3 => ?_
    simp only [splice] at g3
    simp only [g3, splice, coreS, Value.cells, Value.oneCell', Nat.reduceAdd, Nat.reduceSub, Nat.reduceMul, Nat.reduceLeDiff, Int.reduceEq, Nat.reduceEqDiff, H55Fs38]
    exact ⟨by rw [rtV, if_neg e0]; rfl, u3.ext (y1.trans x2) (by omega)⟩
  have o0 : opn m [x] = 0 := by
    unfold roE at e0
    split at e0
    · rename_i h1; exact absurd e0 h1
    · rename_i h1; exact Classical.not_not.1 h1
  obtain ⟨i, rfl, hi, h16, gd⟩ := opn_in o0
  simp only [e0, b0, b1, decide_true, Bool.not_true, splice, coreS, Value.cells, Value.oneCell', Nat.reduceAdd, Nat.reduceSub, Nat.reduceMul, Nat.reduceLeDiff, Int.reduceEq, Nat.reduceEqDiff, H55Fs38]
  try rw [hval]
  refine CallsH.mono (rateOf75 m gd (by omega) h16 i hi h1 (hm.ext y1)) ?_
  rintro v h2 ⟨rfl, x2⟩
  have c1 := x2.get b1
  simp only [c1, splice, coreS, Value.cells, Value.oneCell', Nat.reduceAdd, Nat.reduceSub, Nat.reduceMul, Nat.reduceLeDiff, Int.reduceEq, Nat.reduceEqDiff, H55Fs38]
  refine stK_abs c1 (by simp) fun h3 g3 u3 => ?_
  simp only [splice] at g3
  simp only [g3, splice, coreS, Value.cells, Value.oneCell', Nat.reduceAdd, Nat.reduceSub, Nat.reduceMul, Nat.reduceLeDiff, Int.reduceEq, Nat.reduceEqDiff, H55Fs38]
  exact ⟨by rw [rtV, if_pos e0]; rfl, u3.ext (y1.trans x2) (by omega)⟩
theorem rounds6 (m : MV) (x : Int) (s : ByteArray) (s2 : ByteArray) (h : Eng.Heap) (hc : IntsV h m.a m.casts.length m.casts) (hw : IntsV h m.b m.waits.length m.waits) (hs : s.size ≤ 9223372036854775807) (hs2 : s2.size ≤ 9223372036854775807) :
    CallsH Tryd.prog 6 #[m.val, .int .i64 x, .string s, .string s2] h (fun v h' => v = .bool true ∧ Ext h h') := by
  (refine CallsH_of_exec Tryd.func6 rfl bod6 ?_; simp only [Tryd.ntmps6, Tryd.results6, coreS, stK_some, splice, Value.cells, Value.oneCell', Nat.reduceAdd, Nat.reduceSub, Nat.reduceMul, Nat.reduceLeDiff, Int.reduceEq, Nat.reduceEqDiff, H55Fs6])
  have hb := push_new (h := h) (o := .cells #[.slice m.a m.casts.length m.ca, .slice m.b m.waits.length m.cb, .int .i64 m.lo, .int .i64 m.hi] 24)
  have y0 : Ext h (h.push (.cells #[.slice m.a m.casts.length m.ca, .slice m.b m.waits.length m.cb, .int .i64 m.lo, .int .i64 m.hi] 24)) := (Ext.refl h).push _
  have hval : Value.agg #[.slice m.a m.casts.length m.ca, .slice m.b m.waits.length m.cb, .int .i64 m.lo, .int .i64 m.hi] = m.val := rfl
  have works : ∀ {h2 : Eng.Heap}, Ext h h2 → CallsH Tryd.prog 19 #[] h2 (fun v h' => v = .bool true ∧ Ext h h') := fun x => CallsH.mono (works19 _) fun v h' q => ⟨q.1, x.trans q.2⟩
  have b0 := hb
  refine CallsH.mono (great17 m _) ?_
  rintro v h1 ⟨rfl, x1⟩
  have y1 := y0.trans x1
  have b1 := x1.get b0
  by_cases hg : 24 < m.casts.length ∨ 24 < m.waits.length
  · simp only [hg, decide_true, gd_none, coreS, Value.cells, Value.oneCell', Nat.reduceAdd, Nat.reduceSub, Nat.reduceMul, Nat.reduceLeDiff, Int.reduceEq, Nat.reduceEqDiff, H55Fs6]
    refine CallsH.mono (works y1) ?_
    rintro v hW ⟨rfl, xW⟩
    simp only [coreS, Value.cells, Value.oneCell', Nat.reduceAdd, Nat.reduceSub, Nat.reduceMul, Nat.reduceLeDiff, Int.reduceEq, Nat.reduceEqDiff, H55Fs6]
    exact xW
  have hm : m.ok h := ⟨hc, hw, by omega, by omega⟩
  simp only [b1, hg, decide_false, gd_none, splice, coreS, Value.cells, Value.oneCell', Nat.reduceAdd, Nat.reduceSub, Nat.reduceMul, Nat.reduceLeDiff, Int.reduceEq, Nat.reduceEqDiff, H55Fs6]
  refine CallsH.mono (long18 s _) ?_
  rintro v hS ⟨rfl, rfl⟩
  by_cases hl : 600 < s.size
  case pos =>
    simp only [hl, decide_true, gd_none, coreS, Value.cells, Value.oneCell', Nat.reduceAdd, Nat.reduceSub, Nat.reduceMul, Nat.reduceLeDiff, Int.reduceEq, Nat.reduceEqDiff, H55Fs6]
    refine CallsH.mono (works y1) ?_
    rintro v hW ⟨rfl, xW⟩
    simp only [coreS, Value.cells, Value.oneCell', Nat.reduceAdd, Nat.reduceSub, Nat.reduceMul, Nat.reduceLeDiff, Int.reduceEq, Nat.reduceEqDiff, H55Fs6]
    exact xW
  simp only [b1, hl, decide_false, gd_none, splice, coreS, Value.cells, Value.oneCell', Nat.reduceAdd, Nat.reduceSub, Nat.reduceMul, Nat.reduceLeDiff, Int.reduceEq, Nat.reduceEqDiff, H55Fs6]
  refine CallsH.mono (long18 s2 _) ?_
  rintro v hS ⟨rfl, rfl⟩
  by_cases hk : 600 < s2.size
  case pos =>
    simp only [hk, decide_true, gd_none, coreS, Value.cells, Value.oneCell', Nat.reduceAdd, Nat.reduceSub, Nat.reduceMul, Nat.reduceLeDiff, Int.reduceEq, Nat.reduceEqDiff, H55Fs6]
    refine CallsH.mono (works y1) ?_
    rintro v hW ⟨rfl, xW⟩
    simp only [coreS, Value.cells, Value.oneCell', Nat.reduceAdd, Nat.reduceSub, Nat.reduceMul, Nat.reduceLeDiff, Int.reduceEq, Nat.reduceEqDiff, H55Fs6]
    exact xW
  simp only [b1, hk, decide_false, gd_none, splice, coreS, Value.cells, Value.oneCell', Nat.reduceAdd, Nat.reduceSub, Nat.reduceMul, Nat.reduceLeDiff, Int.reduceEq, Nat.reduceEqDiff, H55Fs6]
  try rw [hval]
  obtain ⟨cv, hcv⟩ : ∃ v, ckrV m x s s2 = v := ⟨_, rfl⟩
  obtain ⟨ce, hce⟩ : ∃ v, ckrE m x s s2 = v := ⟨_, rfl⟩
  obtain ⟨rv, hrv⟩ : ∃ v, rtV m x = v := ⟨_, rfl⟩
  obtain ⟨re, hre⟩ : ∃ v, roE m x = v := ⟨_, rfl⟩
  refine CallsH.mono (ckr35 m x s s2 _ (hm.ext y1) hs hs2) ?_
  rintro v h2 ⟨rfl, x2⟩
  have y2 := y1.trans x2
  have b2 := x2.get b1
  simp only [b2, hcv, hce, ratV, splice, coreS, Value.cells, Value.oneCell', Nat.reduceAdd, Nat.reduceSub, Nat.reduceMul, Nat.reduceLeDiff, Int.reduceEq, Nat.reduceEqDiff, H55Fs6]
  refine stK_abs push_new (by simp) fun h3 g3 u3 => ?_
  simp only [splice] at g3
  have x3 : Ext h2 h3 := u3.ext ((Ext.refl h2).push _) (Nat.le_refl _)
  have y3 := y2.trans x3
  have b3 := x3.get b2
  have ba3 := g3
  simp only [b3, ba3, splice, coreS, Value.cells, Value.oneCell', Nat.reduceAdd, Nat.reduceSub, Nat.reduceMul, Nat.reduceLeDiff, Int.reduceEq, Nat.reduceEqDiff, H55Fs6]
  try rw [hval]
  refine CallsH.mono (ckr36 m x s s2 _ (hm.ext y3) hs hs2) ?_
  rintro v h4 ⟨rfl, x4⟩
  have y4 := y3.trans x4
  have b4 := x4.get b3
  have ba4 := x4.get ba3
  simp only [b4, ba4, hcv, hce, ratV, splice, coreS, Value.cells, Value.oneCell', Nat.reduceAdd, Nat.reduceSub, Nat.reduceMul, Nat.reduceLeDiff, Int.reduceEq, Nat.reduceEqDiff, H55Fs6]
  refine stK_abs push_new (by simp) fun h5 g5 u5 => ?_
  simp only [splice] at g5
  have x5 : Ext h4 h5 := u5.ext ((Ext.refl h4).push _) (Nat.le_refl _)
  have y5 := y4.trans x5
  have b5 := x5.get b4
  have ba5 := x5.get ba4
  have bb5 := g5
  simp only [b5, ba5, bb5, splice, coreS, Value.cells, Value.oneCell', Nat.reduceAdd, Nat.reduceSub, Nat.reduceMul, Nat.reduceLeDiff, Int.reduceEq, Nat.reduceEqDiff, H55Fs6]
  try rw [hval]
  refine CallsH.mono (rate37 m x _ (hm.ext y5)) ?_
  rintro v h6 ⟨rfl, x6⟩
  have y6 := y5.trans x6
  have b6 := x6.get b5
  have ba6 := x6.get ba5
  have bb6 := x6.get bb5
  simp only [b6, ba6, bb6, hrv, hre, ratV, splice, coreS, Value.cells, Value.oneCell', Nat.reduceAdd, Nat.reduceSub, Nat.reduceMul, Nat.reduceLeDiff, Int.reduceEq, Nat.reduceEqDiff, H55Fs6]
  refine stK_abs push_new (by simp) fun h7 g7 u7 => ?_
  simp only [splice] at g7
  have x7 : Ext h6 h7 := u7.ext ((Ext.refl h6).push _) (Nat.le_refl _)
  have y7 := y6.trans x7
  have b7 := x7.get b6
  have ba7 := x7.get ba6
  have bb7 := x7.get bb6
  have bc7 := g7
  simp only [b7, ba7, bb7, bc7, splice, coreS, Value.cells, Value.oneCell', Nat.reduceAdd, Nat.reduceSub, Nat.reduceMul, Nat.reduceLeDiff, Int.reduceEq, Nat.reduceEqDiff, H55Fs6]
  try rw [hval]
  refine CallsH.mono (rate38 m x _ (hm.ext y7)) ?_
  rintro v h8 ⟨rfl, x8⟩
  have y8 := y7.trans x8
  have b8 := x8.get b7
  have ba8 := x8.get ba7
  have bb8 := x8.get bb7
  have bc8 := x8.get bc7
  simp only [b8, ba8, bb8, bc8, hrv, hre, ratV, splice, coreS, Value.cells, Value.oneCell', Nat.reduceAdd, Nat.reduceSub, Nat.reduceMul, Nat.reduceLeDiff, Int.reduceEq, Nat.reduceEqDiff, H55Fs6]
  refine stK_abs push_new (by simp) fun h9 g9 u9 => ?_
  simp only [splice] at g9
  have x9 : Ext h8 h9 := u9.ext ((Ext.refl h8).push _) (Nat.le_refl _)
  have y9 := y8.trans x9
  have b9 := x9.get b8
  have ba9 := x9.get ba8
  have bb9 := x9.get bb8
  have bc9 := x9.get bc8
  have bd9 := g9
  simp only [b9, ba9, bb9, bc9, bd9, splice, coreS, Value.cells, Value.oneCell', Nat.reduceAdd, Nat.reduceSub, Nat.reduceMul, Nat.reduceLeDiff, Int.reduceEq, Nat.reduceEqDiff, H55Fs6]
  try rw [hval]
  refine CallsH.mono (round39 m x _ (hm.ext y9)) ?_
  rintro v h10 ⟨hR, x10⟩
  have y10 := y9.trans x10
  have b10 := x10.get b9
  have ba10 := x10.get ba9
  have bb10 := x10.get bb9
  have bc10 := x10.get bc9
  have bd10 := x10.get bd9
  by_cases e0 : roE m x = 0
  case neg =>
    obtain rfl := rov_ne e0 hR
    have e1 : ¬ re = 0 := by rw [← hre]; exact e0
    simp only [b10, ba10, bb10, bc10, bd10, hre, splice, coreS, Value.cells, Value.oneCell', Nat.reduceAdd, Nat.reduceSub, Nat.reduceMul, Nat.reduceLeDiff, Int.reduceEq, Nat.reduceEqDiff, H55Fs6]
    try rw [hval]
    refine CallsH.mono (roundE40 m x _ (hm.ext y10)) ?_
    rintro v h11 ⟨rfl, x11⟩
    have y11 := y10.trans x11
    have b11 := x11.get b10
    have ba11 := x11.get ba10
    have bb11 := x11.get bb10
    have bc11 := x11.get bc10
    have bd11 := x11.get bd10
    simp only [b11, ba11, bb11, bc11, bd11, hre, splice, coreS, Value.cells, Value.oneCell', Nat.reduceAdd, Nat.reduceSub, Nat.reduceMul, Nat.reduceLeDiff, Int.reduceEq, Nat.reduceEqDiff, H55Fs6]
    refine ne2W (u := 45) (b := false) (by kernel_rfl) (xs := [(cv.1 : Int), (cv.2 : Int)]) (ys := [(cv.1 : Int), (cv.2 : Int)]) rfl rfl rfl rfl (by simp) ?_
    simp only [b11, ba11, bb11, bc11, bd11, decide_true, Bool.not_true, splice, coreS, Value.cells, Value.oneCell', Nat.reduceAdd, Nat.reduceSub, Nat.reduceMul, Nat.reduceLeDiff, Int.reduceEq, Nat.reduceEqDiff, H55Fs6]
    refine ne2W (u := 45) (b := false) (by kernel_rfl) (xs := [(rv.1 : Int), (rv.2 : Int)]) (ys := [(rv.1 : Int), (rv.2 : Int)]) rfl rfl rfl rfl (by simp) ?_
    simp only [b11, ba11, bb11, bc11, bd11, e1, hre, decide_true, decide_false, Bool.not_true, Bool.not_false, splice, coreS, Value.cells, Value.oneCell', Nat.reduceAdd, Nat.reduceSub, Nat.reduceMul, Nat.reduceLeDiff, Int.reduceEq, Nat.reduceEqDiff, H55Fs6]
    refine CallsH.mono (works y11) ?_
    rintro v hW ⟨rfl, xW⟩
    simp only [coreS, Value.cells, Value.oneCell', Nat.reduceAdd, Nat.reduceSub, Nat.reduceMul, Nat.reduceLeDiff, Int.reduceEq, Nat.reduceEqDiff, H55Fs6]
    exact xW
  obtain ⟨p, q, u, rfl, hp, hq, hc1, hlen⟩ := rov_zero e0 hR
  have o0 : opn m [x] = 0 := by
    have e1 := e0
    unfold roE at e1
    split at e1
    · rename_i h1; exact absurd e1 h1
    · rename_i h1; exact Classical.not_not.1 h1
  obtain ⟨i, rfl, hi, h16, gd⟩ := opn_in o0
  rw [e0] at hre
  subst hre
  rw [Int.toNat_natCast] at hp
  have hu : u < m.casts.length := run_lt gd.ok (show i < m.ov.n from hi) hp
  obtain ⟨kE, kV⟩ := ckr_of o0 (by rw [Int.toNat_natCast]; exact hp) hq hc1 hu (by omega) (by omega)
  have zp : (planS p).size ≤ 9223372036854775807 := by rw [planS_size]; omega
  have zq : (planS q).size ≤ 9223372036854775807 := by rw [planS_size]; omega
  simp only [b10, ba10, bb10, bc10, bd10, splice, coreS, Value.cells, Value.oneCell', Nat.reduceAdd, Nat.reduceSub, Nat.reduceMul, Nat.reduceLeDiff, Int.reduceEq, Nat.reduceEqDiff, H55Fs6]
  try rw [hval]
  refine CallsH.mono (roundE40 m i _ (hm.ext y10)) ?_
  rintro v h11 ⟨rfl, x11⟩
  have y11 := y10.trans x11
  have b11 := x11.get b10
  have ba11 := x11.get ba10
  have bb11 := x11.get bb10
  have bc11 := x11.get bc10
  have bd11 := x11.get bd10
  simp only [b11, ba11, bb11, bc11, bd11, e0, splice, coreS, Value.cells, Value.oneCell', Nat.reduceAdd, Nat.reduceSub, Nat.reduceMul, Nat.reduceLeDiff, Int.reduceEq, Nat.reduceEqDiff, H55Fs6]
  refine ne2W (u := 45) (b := false) (by kernel_rfl) (xs := [(cv.1 : Int), (cv.2 : Int)]) (ys := [(cv.1 : Int), (cv.2 : Int)]) rfl rfl rfl rfl (by simp) ?_
  simp only [b11, ba11, bb11, bc11, bd11, decide_true, Bool.not_true, splice, coreS, Value.cells, Value.oneCell', Nat.reduceAdd, Nat.reduceSub, Nat.reduceMul, Nat.reduceLeDiff, Int.reduceEq, Nat.reduceEqDiff, H55Fs6]
  refine ne2W (u := 45) (b := false) (by kernel_rfl) (xs := [(rv.1 : Int), (rv.2 : Int)]) (ys := [(rv.1 : Int), (rv.2 : Int)]) rfl rfl rfl rfl (by simp) ?_
  simp only [b11, ba11, bb11, bc11, bd11, e0, decide_true, decide_false, Bool.not_true, Bool.not_false, splice, coreS, Value.cells, Value.oneCell', Nat.reduceAdd, Nat.reduceSub, Nat.reduceMul, Nat.reduceLeDiff, Int.reduceEq, Nat.reduceEqDiff, H55Fs6]
  try rw [hval]
  refine CallsH.mono (ckr36 m i (planS p) (planS q) _ (hm.ext y11) zp zq) ?_
  rintro v h12 ⟨rfl, x12⟩
  have y12 := y11.trans x12
  have b12 := x12.get b11
  have ba12 := x12.get ba11
  have bb12 := x12.get bb11
  have bc12 := x12.get bc11
  have bd12 := x12.get bd11
  simp only [b12, ba12, bb12, bc12, bd12, kE, kV, ratV, splice, coreS, Value.cells, Value.oneCell', Nat.reduceAdd, Nat.reduceSub, Nat.reduceMul, Nat.reduceLeDiff, Int.reduceEq, Nat.reduceEqDiff, H55Fs6]
  refine stK_abs push_new (by simp) fun h13 g13 u13 => ?_
  have x13 : Ext h12 h13 := u13.ext ((Ext.refl h12).push _) (Nat.le_refl _)
  have y13 := y12.trans x13
  have b13 := x13.get b12
  have ba13 := x13.get ba12
  have bb13 := x13.get bb12
  have bc13 := x13.get bc12
  have bd13 := x13.get bd12
  simp only [b13, ba13, bb13, bc13, bd13, decide_true, splice, coreS, Value.cells, Value.oneCell', Nat.reduceAdd, Nat.reduceSub, Nat.reduceMul, Nat.reduceLeDiff, Int.reduceEq, Nat.reduceEqDiff, H55Fs6]
  refine CallsH.mono (works y13) ?_
  rintro v hW ⟨rfl, xW⟩
  simp only [coreS, Value.cells, Value.oneCell', Nat.reduceAdd, Nat.reduceSub, Nat.reduceMul, Nat.reduceLeDiff, Int.reduceEq, Nat.reduceEqDiff, H55Fs6]
  exact xW
end Go.Proofs.YtafemfjhflfdeaaDoor
