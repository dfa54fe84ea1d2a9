/- Walks: balances, of the program and of the reference. -/
import Derived.Test.YtepaekbjoombpaaGreatDoorB1
import Derived.Test.YtepaekbjoombpaaGreatDoorA6
namespace Go.Proofs.YtepaekbjoombpaaGreatDoor
open Go Go.Proofs Go.Eng Tab
set_option maxRecDepth 100000
set_option linter.unusedSimpArgs false
set_option linter.unusedVariables false
set_option maxHeartbeats 1000000
set_option linter.defProp false
def B2Fs28 := (And.intro (And.intro (And.intro (And.intro @agg104 @agg24) (And.intro @agg3 (And.intro @by2 @by3))) (And.intro (And.intro @fo24_0 @inf104) (And.intro @inf2 (And.intro @inf24 @inf3)))) (And.intro (And.intro (And.intro @sz104 @sz2) (And.intro @sz24 (And.intro @sz3 @zero104))) (And.intro (And.intro @zero2 @zero3) (And.intro @Tryz.underlying37 (And.intro @Tryz.underlying40 @Tryz.underlying104)))))
def B2Fs29 := (And.intro @agg24 (And.intro @inf24 @sz24))
def B2Fs80 := (And.intro (And.intro (And.intro (And.intro @agg2 (And.intro @agg22 @agg26)) (And.intro @agg3 (And.intro @by2 @by26))) (And.intro (And.intro @fo24_0 (And.intro @fo24_2 @fo26_0)) (And.intro @fo26_1 (And.intro @fo26_2 @fo26_3)))) (And.intro (And.intro (And.intro @inf2 (And.intro @inf22 @inf26)) (And.intro @inf3 (And.intro @sz2 @sz22))) (And.intro (And.intro @sz26 (And.intro @sz3 @zero2)) (And.intro @zero26 (And.intro @Tryz.underlying22 @Tryz.underlying37)))))
noncomputable def balsR (acc cl : Int) (es : List En) (day : Int) : List Int := if opn acc cl es [day] = 0 then bals acc.toNat es day else []
theorem balances28 (acc cl : Int) (a : Option Addr) (n c : Nat) (es : List En) (day : Int) (h : Eng.Heap) (hr : Row h a (ensV es)) (hn : n = es.length) (hl : n ≤ 1000000) :
    CallsH Tryz.prog 28 #[.agg #[.int .i64 acc, .int .i64 cl, .slice a n c], .int .i64 day] h (fun v h' => (∃ b m k, v = .tuple #[.slice b m k, .int .i64 (opn acc cl es [day])] ∧ IntsV h' b m (balsR acc cl es day) ∧ m ≤ 8) ∧ Ext h h') := by
  refine CallsH_of_exec Tryz.func28 rfl bod28 ?_
  simp only [Tryz.ntmps28, Tryz.results28, coreS, stK_some, splice, Value.cells, Value.oneCell', Nat.reduceAdd, Nat.reduceSub, Nat.reduceMul, Nat.reduceLeDiff, Int.reduceEq, Nat.reduceEqDiff, B2Fs28]
  refine CallsH.mono (open72 acc cl a n c es _ 1 1 [day] _ ((hr.push _).push _) hn hl (intsV_one pn1) (by omega)) ?_
  rintro v h1 ⟨x1, H⟩
  have hb1 := x1.get pn0
  have y1 := x1.of_push.of_push
  rcases H with ⟨e0, g, rfl, hg, hsz⟩ | ⟨e0, rfl⟩
  · obtain ⟨hc, hd⟩ := opn_ok e0
    obtain ⟨ha, hl2, hcl, hok, hso, hft⟩ := chk_ok hc
    simp only [coreS, Value.cells, Value.oneCell', Nat.reduceAdd, Nat.reduceSub, Nat.reduceMul, Nat.reduceLeDiff, Int.reduceEq, Nat.reduceEqDiff, B2Fs28]
    refine CallsH.mono (balances79 g acc cl a n c es day h1 hg (hr.ext y1) hn (by omega) hok ha.2 hft) ?_
    rintro v h2 ⟨rfl, x2⟩
    obtain ⟨b0, b1, b2, b3, b4, b5, b6, b7, h8⟩ : ∃ b0 b1 b2 b3 b4 b5 b6 b7 : Int, bals 8 es day = [b0, b1, b2, b3, b4, b5, b6, b7] := ⟨_, _, _, _, _, _, _, _, rfl⟩
    have h9 : (ints (bals 8 es day)).toArray = #[.int .i64 b0, .int .i64 b1, .int .i64 b2, .int .i64 b3, .int .i64 b4, .int .i64 b5, .int .i64 b6, .int .i64 b7] := by rw [h8]; rfl
    have hb2 := x2.get hb1
    rw [h9]
    have hlt2 := lt_of_get hb2
    have hne : ¬ (h.size = h2.size) := by omega
    simp only [hne, if_false, hb2, coreS, stK_some, splice, Value.cells, Value.oneCell', Nat.reduceAdd, Nat.reduceSub, Nat.reduceMul, Nat.reduceLeDiff, Int.reduceEq, Nat.reduceEqDiff, B2Fs28]
    obtain ⟨k, rfl⟩ : ∃ k : Nat, acc = k := ⟨acc.toNat, by omega⟩
    have hk8 : k ≤ 8 := by omega
    have e8 : (((8 : Nat) : Int) - ((0 : Nat) : Int)).toNat = 8 := rfl
    simp only [ite_self, e8, Int.toNat_natCast]
    refine ⟨by omega, by omega, by omega, by omega, by omega, by omega, by omega, by omega, ?_⟩
    have hI := IntsV.block (xs := bals 8 es day) (by rw [h9]; exact pn0 (h := h2) (o := .cells #[.int .i64 b0, .int .i64 b1, .int .i64 b2, .int .i64 b3, .int .i64 b4, .int .i64 b5, .int .i64 b6, .int .i64 b7] 104) (o' := .cells (List.replicate k [Value.int .i64 0]).flatten.toArray 2))
    rw [bals_length] at hI
    refine cpy37 rfl rfl pn1 (by simp) hI fun h3 g3 u3 => ?_
    rw [bals_sub es day hk8] at g3
    have e9 : splice (List.replicate k [Value.int .i64 0]).flatten 0 (ints (bals k es day)) = ints (bals k es day) := by
      simp [splice, ints_length, bals_length]
    rw [e9] at g3
    simp only [coreS, Value.cells, Value.oneCell', Nat.reduceAdd, Nat.reduceSub, Nat.reduceMul, Nat.reduceLeDiff, Int.reduceEq, Nat.reduceEqDiff, B2Fs28]
    refine ⟨⟨_, k, k, by rw [e0], ?_, by omega⟩, u3.ext (((y1.trans x2).push _).push _) (by have := x2.size; have := y1.size; omega)⟩
    rw [balsR, if_pos e0, Int.toNat_natCast]
    have := IntsV.block g3
    rwa [bals_length] at this
  · simp only [e0, decide_false, Bool.not_false, coreS, Value.cells, Value.oneCell', Nat.reduceAdd, Nat.reduceSub, Nat.reduceMul, Nat.reduceLeDiff, Int.reduceEq, Nat.reduceEqDiff, B2Fs28]
    exact ⟨⟨_, _, _, rfl, by rw [balsR, if_neg e0]; exact IntsV.nil _, by omega⟩, y1⟩
theorem balancesOf80 (k : Nat) (cl : Int) (a : Option Addr) (n c : Nat) (es : List En) (day : Int) (h : Eng.Heap) (hr : Row h a (ensV es)) (hn : n = es.length) (hl : n ≤ 20) (hok : ∀ e ∈ es, okE k e) (ha : k ≤ 8) (hne : ∀ e ∈ es, e.f ≠ e.t) :
    CallsH Tryz.prog 80 #[.agg #[.int .i64 k, .int .i64 cl, .slice a n c], .int .i64 day] h (fun v h' => (∃ b m c, v = .slice b m c ∧ IntsV h' b m (bals k es day) ∧ m ≤ 8) ∧ Ext h h') := by
  refine CallsH_of_exec Tryz.func80 rfl bod80 ?_
  simp only [Tryz.ntmps80, Tryz.results80, coreS, stK_some, splice, Value.cells, Value.oneCell', Nat.reduceAdd, Nat.reduceSub, Nat.reduceMul, Nat.reduceLeDiff, Int.reduceEq, Nat.reduceEqDiff, B2Fs80]
  refine ⟨by omega, by omega, by omega, by omega, ?_⟩
  have q1 : ((h.push (.cells #[.int .i64 k, .int .i64 cl, .slice a n c] 24)).push (.cells (List.replicate k [Value.int .i64 0]).flatten.toArray 2))[h.size + 1]? = some (.cells (ints (bals k (es.take 0) day)).toArray 2) := by
    rw [pn1, List.take_zero, bals_nil]; simp [ints]
  have q0 : ((h.push (.cells #[.int .i64 k, .int .i64 cl, .slice a n c] 24)).push (.cells (List.replicate k [Value.int .i64 0]).flatten.toArray 2))[h.size]? = some (.cells #[.int .i64 k, .int .i64 cl, .slice a n c] 24) := pn0
  refine WP_loopI [6, 7, 11, 12, 13, 14, 15, 16, 17, 18, 19, 20, 21, 22, 23, 24, 25, 26, 27, 28, 29, 30, 31, 32, 33, 34, 35, 36, 37, 38, 39, 40, 41, 42, 43, 44] (fun g h' => ∃ i : Nat, i ≤ n ∧ g 6 = .int .i64 i ∧ h'[h.size + 1]? = some (.cells (ints (bals k (es.take i) day)).toArray 2) ∧ h'[h.size]? = some (.cells #[.int .i64 k, .int .i64 cl, .slice a n c] 24) ∧ Ext h h') (fun g _ => match g 6 with | .int _ m => n - m.toNat | _ => 0) ⟨0, by omega, rfl, q1, q0, ((Ext.refl h).push _).push _⟩ ?_
  clear q0 q1
  rintro g h' ⟨i, hin, hg, hb, hq, hx⟩
  have hlt : h.size + 1 < h'.size := lt_of_get hb
  by_cases hi : i < es.length
  · have hsm : a.isSome = true := hr.isSome (by rw [ensV_length]; omega)
    have hc1 := rowE (hr.ext hx) hi
    have hoe := hok _ (List.getElem_mem hi)
    have hfe := hne _ (List.getElem_mem hi)
    obtain ⟨f, hf⟩ : ∃ f : Nat, es[i].f = f := ⟨es[i].f.toNat, by unfold okE at hoe; omega⟩
    obtain ⟨t, ht⟩ : ∃ t : Nat, es[i].t = t := ⟨es[i].t.toNat, by unfold okE at hoe; omega⟩
    have hf8 : f < k := by unfold okE at hoe; omega
    have ht8 : t < k := by unfold okE at hoe; omega
    have hft : f ≠ t := by omega
    rw [hf, ht] at hc1
    simp only [hg, hq, hc1, Int.toNat_natCast, coreS, Value.cells, Value.oneCell', Nat.reduceAdd, Nat.reduceSub, Nat.reduceMul, Nat.reduceLeDiff, Int.reduceEq, Nat.reduceEqDiff, B2Fs80]
    refine ⟨fun _ => ?_, fun hge => absurd hge (by omega)⟩
    refine ⟨by omega, hsm, ?_⟩
    simp only [coreS, stK_some, splice, Value.cells, Value.oneCell', Nat.reduceAdd, Nat.reduceSub, Nat.reduceMul, Nat.reduceLeDiff, Int.reduceEq, Nat.reduceEqDiff, B2Fs80]
    refine ⟨fun hd => ?_, fun hd => ?_⟩
    · have hb' : (h'.push (.cells #[.int .i64 es[i].d, .int .i64 f, .int .i64 t, .int .i64 es[i].a] 26))[h.size + 1]? = some (.cells (ints (bals k (es.take i) day)).toArray 2) := push_old hb
      have hn' := push_new (h := h') (o := .cells #[.int .i64 es[i].d, .int .i64 f, .int .i64 t, .int .i64 es[i].a] 26)
      have hA : ∀ k, -(20000 : Int) ≤ balA (es.take i) day k ∧ balA (es.take i) day k ≤ 20000 := fun k => by
        have := balA_bound day k (es := es.take i) fun e he => hok e (List.mem_of_mem_take he)
        have h2 : (es.take i).length ≤ 20 := by rw [List.length_take]; omega
        omega
      have h1 := hA f
      have h2 := hA t
      have h3 : 1 ≤ es[i].a ∧ es[i].a ≤ 1000 := hoe.2.2.2
      rw [← bals_get (n := k) _ _ hf8] at h1
      rw [← bals_get (n := k) _ _ ht8] at h2
      refine WP_draw (by kernel_rfl) sta_eq [(0, 0), (1, 0), (2, 0), (3, 0), (4, 0), (5, 0), (6, 0), (7, 0), (8, 0), (9, 1)] (by kernel_rfl) rfl (by kernel_rfl) ?_
      simp only [hn', hb', ints_getElem? (bals k (es.take i) day) t (by rw [bals_length]; omega), Int.toNat_natCast, hvK_eq, coreS, Value.cells, Value.oneCell', Nat.reduceAdd, Nat.reduceSub, Nat.reduceMul, Nat.reduceLeDiff, Int.reduceEq, Nat.reduceEqDiff, drawS, B2Fs80]
      refine ⟨by omega, rfl, by rw [inK_i64]; omega, by omega, rfl, ?_⟩
      refine stK_abs hb' (by simp [ints_length, bals_length]; omega) fun h4 g4 u4 => ?_
      rw [splice_one _ _ _ (by rw [ints_length, bals_length]; omega), ints_set] at g4
      have hn4 := u4.get hn' (by omega)
      simp only [hvK_eq, coreS, Value.cells, Value.oneCell', Nat.reduceAdd, Nat.reduceSub, Nat.reduceMul, Nat.reduceLeDiff, Int.reduceEq, Nat.reduceEqDiff, drawS, B2Fs80]
      have h5 : ((bals k (es.take i) day).set t ((bals k (es.take i) day).getD t 0 + es[i].a)).getD f 0 = (bals k (es.take i) day).getD f 0 := by
        rw [getD_set, if_neg (by omega)]
      refine WP_draw (by kernel_rfl) sta_eq [(0, 0), (1, 0), (2, 0), (3, 0), (4, 0), (5, 0), (6, 0), (7, 0), (8, 0), (9, 1)] (by kernel_rfl) rfl (by kernel_rfl) ?_
      simp only [hn4, g4, ints_getElem? ((bals k (es.take i) day).set t ((bals k (es.take i) day).getD t 0 + es[i].a)) f (by simp [bals_length]; omega), Int.toNat_natCast, hvK_eq, coreS, Value.cells, Value.oneCell', Nat.reduceAdd, Nat.reduceSub, Nat.reduceMul, Nat.reduceLeDiff, Int.reduceEq, Nat.reduceEqDiff, drawS, B2Fs80]
      refine ⟨by omega, rfl, by rw [inK_i64, h5]; omega, by omega, rfl, ?_⟩
      refine stK_abs g4 (by simp [ints_length, bals_length]; omega) fun h6 g6 u6 => ?_
      rw [splice_one _ _ _ (by simp [ints_length, bals_length]; omega), ints_set] at g6
      have g7 : h6[h.size + 1]? = some (.cells (ints (takeL (bals k (es.take i) day) f t es[i].a)).toArray 2) := g6
      rw [bals_take' hd hf ht hf8 ht8, ← take_nextE hi] at g7
      simp only [hvK_eq, coreS, Value.cells, Value.oneCell', Nat.reduceAdd, Nat.reduceSub, Nat.reduceMul, Nat.reduceLeDiff, Int.reduceEq, Nat.reduceEqDiff, drawS, B2Fs80]
      refine ⟨by rw [inK_i64]; omega, roundK_mk (by kernel_rfl) ⟨i + 1, by omega, rfl, g7, u6.get (u4.get (push_old hq) (by omega)) (by omega), u6.ext (u4.ext (hx.push _) (by omega)) (by omega)⟩ ?_⟩
      show n - ((i : Int) + 1).toNat < n - (i : Int).toNat
      omega
    · refine ⟨by rw [inK_i64]; omega, roundK_mk (by kernel_rfl) ⟨i + 1, by omega, rfl, ?_, push_old hq, hx.push _⟩ ?_⟩
      · rw [take_nextE hi, bals_skip (by omega)]; exact push_old hb
      · show n - ((i : Int) + 1).toNat < n - (i : Int).toNat
        omega
  · obtain rfl : i = n := by omega
    rw [List.take_of_length_le (by omega)] at hb
    simp only [hg, hq, coreS, Value.cells, Value.oneCell', Nat.reduceAdd, Nat.reduceSub, Nat.reduceMul, Nat.reduceLeDiff, Int.reduceEq, Nat.reduceEqDiff, B2Fs80]
    refine ⟨fun hlt => absurd hlt (by omega), fun _ => ⟨⟨_, k, _, rfl, ?_, ha⟩, hx⟩⟩
    have := IntsV.block hb
    rwa [bals_length] at this
theorem balances29 (acc cl : Int) (a : Option Addr) (n c : Nat) (es : List En) (day : Int) (h : Eng.Heap) (hr : Row h a (ensV es)) (hn : n = es.length) (hl : n ≤ 1000000) :
    CallsH Tryz.prog 29 #[.agg #[.int .i64 acc, .int .i64 cl, .slice a n c], .int .i64 day] h (fun v h' => (∃ b m k, v = .tuple #[.slice b m k, .int .i64 (opn acc cl es [day])] ∧ IntsV h' b m (balsR acc cl es day) ∧ m ≤ 8) ∧ Ext h h') := by
  refine CallsH_of_exec Tryz.func29 rfl bod29 ?_
  simp only [Tryz.ntmps29, Tryz.results29, coreS, stK_some, splice, Value.cells, Value.oneCell', Nat.reduceAdd, Nat.reduceSub, Nat.reduceMul, Nat.reduceLeDiff, Int.reduceEq, Nat.reduceEqDiff, B2Fs29]
  refine CallsH.mono (dayError73 acc cl a n c es day _ (hr.push _) hn hl) ?_
  rintro v h1 ⟨rfl, x1⟩
  have hb1 := x1.get (push_new (h := h))
  have y1 := x1.of_push
  by_cases e0 : opn acc cl es [day] = 0
  · obtain ⟨hc, hd⟩ := opn_ok e0
    obtain ⟨ha, hl2, hcl, hok, hso, hft⟩ := chk_ok hc
    obtain ⟨k, rfl⟩ : ∃ k : Nat, acc = k := ⟨acc.toNat, by omega⟩
    simp only [e0, hb1, decide_true, Bool.not_true, coreS, Value.cells, Value.oneCell', Nat.reduceAdd, Nat.reduceSub, Nat.reduceMul, Nat.reduceLeDiff, Int.reduceEq, Nat.reduceEqDiff, B2Fs29]
    refine CallsH.mono (balancesOf80 k cl a n c es day h1 (hr.ext y1) hn (by omega) hok (by omega) hft) ?_
    rintro v h2 ⟨⟨b, m, q, rfl, I, hm⟩, x2⟩
    simp only [coreS, Value.cells, Value.oneCell', Nat.reduceAdd, Nat.reduceSub, Nat.reduceMul, Nat.reduceLeDiff, Int.reduceEq, Nat.reduceEqDiff, B2Fs29]
    exact ⟨⟨_, _, _, rfl, by rw [balsR, if_pos e0, Int.toNat_natCast]; exact I, hm⟩, y1.trans x2⟩
  · simp only [e0, hb1, decide_false, Bool.not_false, coreS, Value.cells, Value.oneCell', Nat.reduceAdd, Nat.reduceSub, Nat.reduceMul, Nat.reduceLeDiff, Int.reduceEq, Nat.reduceEqDiff, B2Fs29]
    refine CallsH.mono (dayError73 acc cl a n c es day _ (hr.ext y1) hn hl) ?_
    rintro v h2 ⟨rfl, x2⟩
    simp only [coreS, Value.cells, Value.oneCell', Nat.reduceAdd, Nat.reduceSub, Nat.reduceMul, Nat.reduceLeDiff, Int.reduceEq, Nat.reduceEqDiff, B2Fs29]
    exact ⟨⟨_, _, _, rfl, by rw [balsR, if_neg e0]; exact IntsV.nil _, by omega⟩, y1.trans x2⟩
end Go.Proofs.YtepaekbjoombpaaGreatDoor
