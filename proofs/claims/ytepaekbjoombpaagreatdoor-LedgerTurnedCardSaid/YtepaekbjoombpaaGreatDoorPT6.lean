/- Texts joined by pack.py: lemmas for YtepaekbjoombpaaGreatDoorTurned. No condition. -/
import Derived.Test.YtepaekbjoombpaaGreatDoorPT5
import Derived.Lib.AppendZerosOnto
import Derived.Lib.Overlaps
import Derived.RangeFuncIn
import Derived.LoopNIn
import Derived.ProofKit
set_option linter.unusedSimpArgs false
set_option linter.unusedVariables false
set_option linter.defProp false
section
namespace Go.Proofs.YtepaekbjoombpaaGreatDoor
open Go Go.Proofs Go.Eng Tab
set_option maxRecDepth 100000
set_option linter.unusedSimpArgs false
set_option linter.unusedVariables false
set_option maxHeartbeats 1000000
set_option linter.defProp false
def B1Fs79 := (And.intro (And.intro (And.intro (And.intro @agg104 (And.intro @agg2 @agg22)) (And.intro @agg26 (And.intro @agg3 @by26))) (And.intro (And.intro @fo150_0 (And.intro @fo24_2 @fo26_0)) (And.intro (And.intro @fo26_1 @fo26_2) (And.intro @fo26_3 @inf104)))) (And.intro (And.intro (And.intro @inf2 (And.intro @inf22 @inf26)) (And.intro (And.intro @inf3 @sz104) (And.intro @sz2 @sz22))) (And.intro (And.intro @sz26 (And.intro @sz3 @zero104)) (And.intro (And.intro @zero26 @Tryz.underlying22) (And.intro @Tryz.underlying37 @Tryz.underlying104)))))
def B1Fs107 := (And.intro (And.intro @agg2 @inf2) (And.intro @sz2 @Tryz.underlying104))
theorem give107 (g : Nat) (xs : List Int) (f t : Nat) (m : Int) (h : Eng.Heap) (hb : h[g]? = some (.cells (ints xs).toArray 104)) (hl : xs.length = 8) (hf : f < 8) (ht : t < 8)
    (o1 : InK .i64 (xs.getD f 0 - m)) (o2 : InK .i64 ((xs.set f (xs.getD f 0 - m)).getD t 0 + m)) :
    CallsH Tryz.prog 107 #[.pointer (some ⟨g, 0, none⟩), .int .i64 f, .int .i64 t, .int .i64 m] h (fun v h' => h'[g]? = some (.cells (ints (giveL xs f t m)).toArray 104) ∧ Upd h h' g) := by
  (refine CallsH_of_exec Tryz.func107 rfl bod107 ?_; simp only [Tryz.ntmps107, Tryz.results107, coreS, stK_some, splice, Value.cells, Value.oneCell', Nat.reduceAdd, Nat.reduceSub, Nat.reduceMul, Nat.reduceLeDiff, Int.reduceEq, Nat.reduceEqDiff, B1Fs107])
  refine WP_draw (by kernel_rfl) sta_eq [(0, 0), (1, 0), (2, 0), (3, 0), (4, 0), (5, 0), (6, 0), (7, 0), (8, 0), (9, 1)] (by kernel_rfl) rfl (by kernel_rfl) ?_
  simp only [hb, ints_getElem? xs f (by omega), Int.toNat_natCast, coreS, Value.cells, Value.oneCell', Nat.reduceAdd, Nat.reduceSub, Nat.reduceMul, Nat.reduceLeDiff, Int.reduceEq, Nat.reduceEqDiff, drawS, B1Fs107]
  repeat (refine And.intro (by first | omega | (rw [inK_i64]; omega) | rfl | assumption) ?_)
  refine stK_abs hb (by simp [ints_length]; omega) fun h2 g2 u2 => ?_
  rw [splice_one _ _ _ (by rw [ints_length]; omega), ints_set] at g2
  simp only [hvK_eq, coreS, Value.cells, Value.oneCell', Nat.reduceAdd, Nat.reduceSub, Nat.reduceMul, Nat.reduceLeDiff, Int.reduceEq, Nat.reduceEqDiff, drawS, B1Fs107]
  refine WP_draw (by kernel_rfl) sta_eq [(0, 0), (1, 0), (2, 0), (3, 0), (4, 0), (5, 0), (6, 0), (7, 0), (8, 0), (9, 1)] (by kernel_rfl) rfl (by kernel_rfl) ?_
  simp only [g2, ints_getElem? (xs.set f (xs.getD f 0 - m)) t (by simp; omega), Int.toNat_natCast, hvK_eq, coreS, Value.cells, Value.oneCell', Nat.reduceAdd, Nat.reduceSub, Nat.reduceMul, Nat.reduceLeDiff, Int.reduceEq, Nat.reduceEqDiff, drawS, B1Fs107]
  repeat (refine And.intro (by first | omega | (rw [inK_i64]; omega) | rfl | assumption) ?_)
  refine stK_abs g2 (by simp [ints_length]; omega) fun h3 g3 u3 => ?_
  rw [splice_one _ _ _ (by simp [ints_length]; omega), ints_set] at g3
  simp only [hvK_eq, coreS, Value.cells, Value.oneCell', Nat.reduceAdd, Nat.reduceSub, Nat.reduceMul, Nat.reduceLeDiff, Int.reduceEq, Nat.reduceEqDiff, drawS, B1Fs107]
  exact ⟨g3, u2.trans u3⟩
theorem clr37 {h : Eng.Heap} {er : Env} {ty ct : TypeId} {x : Operand} {g off n c : Nat} {cur : List Value} {K : Value → Eng.Heap → Prop} (hx : ev er x = .slice (some ⟨g, off, none⟩) n c) (hb : h[g]? = some (.cells cur.toArray ct (0, 0))) (hl : off + n ≤ cur.length)
    (H : ∀ h', h'[g]? = some (.cells (splice cur off (List.replicate n (.int .i64 0))).toArray ct (0, 0)) → Upd h h' g → K (.tuple #[]) h') : opSem Tryz.prog (.call ⟨.builtin .clear, #[x], #[37]⟩) ty er h K :=
  clear_intsT Tryz.underlying37 zero2 hx hb hl H
theorem cpy37 {h : Eng.Heap} {er : Env} {ty ct : TypeId} {x y : Operand} {b : Option Addr} {g off n c m c2 : Nat} {cur : List Value} {ys : List Int} {K : Value → Eng.Heap → Prop} (hx : ev er x = .slice (some ⟨g, off, none⟩) n c) (hy : ev er y = .slice b m c2) (hb : h[g]? = some (.cells cur.toArray ct (0, 0))) (hl : off + n ≤ cur.length) (I : IntsV h b m ys)
    (H : ∀ h', h'[g]? = some (.cells (splice cur off (ints (ys.take n))).toArray ct (0, 0)) → Upd h h' g → K (.int .i64 (min m n : Nat)) h') : opSem Tryz.prog (.call ⟨.builtin .copy, #[x, y], #[37, 37]⟩) ty er h K :=
  copy_intsT Tryz.underlying37 Tryz.underlying37 inf2 sz2 hx hy hb hl I H
theorem balances79 (g0 : Nat) (acc cl : Int) (a : Option Addr) (n c : Nat) (es : List En) (day : Int) (h : Eng.Heap) (hb0 : h[g0]? = some (.cells #[.int .i64 acc, .int .i64 cl, .slice a n c] 150)) (hr : Row h a (ensV es)) (hn : n = es.length) (hl : n ≤ 20) (hok : ∀ e ∈ es, okE acc e) (ha : acc ≤ 8) (hne : ∀ e ∈ es, e.f ≠ e.t) :
    CallsH Tryz.prog 79 #[.pointer (some ⟨g0, 0, none⟩), .int .i64 day] h (fun v h' => v = .agg (ints (bals 8 es day)).toArray ∧ Ext h h') := by
  (refine CallsH_of_exec Tryz.func79 rfl bod79 ?_; simp only [Tryz.ntmps79, Tryz.results79, coreS, stK_some, splice, Value.cells, Value.oneCell', Nat.reduceAdd, Nat.reduceSub, Nat.reduceMul, Nat.reduceLeDiff, Int.reduceEq, Nat.reduceEqDiff, B1Fs79])
  have e8 : (((8 : Nat) : Int) - ((0 : Nat) : Int)).toNat = 8 := rfl
  simp only [ite_self, e8]
  refine ⟨by omega, by omega, by omega, by omega, ?_⟩
  have hb1 := push_new (h := h.push (.cells #[.int .i64 0, .int .i64 0, .int .i64 0, .int .i64 0, .int .i64 0, .int .i64 0, .int .i64 0, .int .i64 0] 104)) (o := .cells #[.int .i64 0, .int .i64 0, .int .i64 0, .int .i64 0, .int .i64 0, .int .i64 0, .int .i64 0, .int .i64 0] 104)
  rw [push_size] at hb1
  refine clr37 (cur := [.int .i64 0, .int .i64 0, .int .i64 0, .int .i64 0, .int .i64 0, .int .i64 0, .int .i64 0, .int .i64 0]) rfl hb1 (by simp) fun h1 g1 u1 => ?_
  have x1 : Ext h h1 := u1.ext (((Ext.refl h).push _).push _) (by omega)
  have q4 : h1[h.size]? = some (.cells #[.int .i64 0, .int .i64 0, .int .i64 0, .int .i64 0, .int .i64 0, .int .i64 0, .int .i64 0, .int .i64 0] 104) := u1.get pn0 (by omega)
  replace g1 : h1[h.size + 1]? = some (.cells (ints (bals 8 (es.take 0) day)).toArray 104) := by rw [List.take_zero, bals_nil]; exact g1
  have hb2 := x1.get hb0
  simp only [hb2, coreS, Value.cells, Value.oneCell', Nat.reduceAdd, Nat.reduceSub, Nat.reduceMul, Nat.reduceLeDiff, Int.reduceEq, Nat.reduceEqDiff, B1Fs79]
  refine WP_loopI [7, 15, 16, 17, 18, 19, 20, 21, 22, 23, 24, 25, 26, 27, 28, 29, 30] (fun g h' => ∃ i : Nat, i ≤ n ∧ g 15 = .int .i64 i ∧ h'[h.size + 1]? = some (.cells (ints (bals 8 (es.take i) day)).toArray 104) ∧ h'[h.size]? = some (.cells #[.int .i64 0, .int .i64 0, .int .i64 0, .int .i64 0, .int .i64 0, .int .i64 0, .int .i64 0, .int .i64 0] 104) ∧ Ext h h') (fun g _ => match g 15 with | .int _ m => n - m.toNat | _ => 0) ⟨0, by omega, rfl, g1, q4, x1⟩ ?_
  rintro g h' ⟨i, hin, hg, hb, hq, hx⟩
  have hlt : h.size + 1 < h'.size := lt_of_get hb
  by_cases hi : i < es.length
  · have hsm : a.isSome = true := hr.isSome (by rw [ensV_length]; omega)
    have hc1 := rowE (hr.ext hx) hi
    have hoe := hok _ (List.getElem_mem hi)
    have hfe := hne _ (List.getElem_mem hi)
    obtain ⟨f, hf⟩ : ∃ f : Nat, es[i].f = f := ⟨es[i].f.toNat, by unfold okE at hoe; omega⟩
    obtain ⟨t, ht⟩ : ∃ t : Nat, es[i].t = t := ⟨es[i].t.toNat, by unfold okE at hoe; omega⟩
    have hf8 : f < 8 := by unfold okE at hoe; omega
    have ht8 : t < 8 := by unfold okE at hoe; omega
    have hft : f ≠ t := by omega
    rw [hf, ht] at hc1
    simp only [hg, hc1, coreS, Value.cells, Value.oneCell', Nat.reduceAdd, Nat.reduceSub, Nat.reduceMul, Nat.reduceLeDiff, Int.reduceEq, Nat.reduceEqDiff, B1Fs79]
    refine ⟨fun _ => ?_, fun hge => absurd hge (by omega)⟩
    refine ⟨by omega, hsm, ?_⟩
    simp only [coreS, stK_some, splice, Value.cells, Value.oneCell', Nat.reduceAdd, Nat.reduceSub, Nat.reduceMul, Nat.reduceLeDiff, Int.reduceEq, Nat.reduceEqDiff, B1Fs79]
    refine ⟨fun hd => ?_, fun hd => ?_⟩
    · have hb' : (h'.push (.cells #[.int .i64 es[i].d, .int .i64 f, .int .i64 t, .int .i64 es[i].a] 26))[h.size + 1]? = some (.cells (ints (bals 8 (es.take i) day)).toArray 104) := push_old hb
      have hA : ∀ k, -(20000 : Int) ≤ balA (es.take i) day k ∧ balA (es.take i) day k ≤ 20000 := fun k => by
        have := balA_bound day k (es := es.take i) fun e he => hok e (List.mem_of_mem_take he)
        have h2 : (es.take i).length ≤ 20 := by rw [List.length_take]; omega
        omega
      have h1 := hA f
      have h2 := hA t
      have h3 : 1 ≤ es[i].a ∧ es[i].a ≤ 1000 := hoe.2.2.2
      refine CallsH.mono (give107 (h.size + 1) _ f t es[i].a _ hb' (bals_length ..) hf8 ht8 ?_ ?_) ?_
      · rw [bals_get _ _ hf8, inK_i64]; omega
      · rw [getD_set, if_neg (by omega), bals_get _ _ ht8, inK_i64]; omega
      · rintro v h3 ⟨g3, u3⟩
        rw [bals_give hd hf ht hf8 ht8, ← take_nextE hi] at g3
        simp only [coreS, Value.cells, Value.oneCell', Nat.reduceAdd, Nat.reduceSub, Nat.reduceMul, Nat.reduceLeDiff, Int.reduceEq, Nat.reduceEqDiff, B1Fs79]
        refine ⟨by rw [inK_i64]; omega, roundK_mk (by kernel_rfl) ⟨i + 1, by omega, rfl, g3, u3.get (push_old hq) (by omega), u3.ext (hx.push _) (by omega)⟩ ?_⟩
        show n - ((i : Int) + 1).toNat < n - (i : Int).toNat
        omega
    · refine ⟨by rw [inK_i64]; omega, roundK_mk (by kernel_rfl) ⟨i + 1, by omega, rfl, ?_, push_old hq, hx.push _⟩ ?_⟩
      · rw [take_nextE hi, bals_skip (by omega)]; exact push_old hb
      · show n - ((i : Int) + 1).toNat < n - (i : Int).toNat
        omega
  · obtain rfl : i = n := by omega
    rw [List.take_of_length_le (by omega)] at hb
    obtain ⟨b0, b1, b2, b3, b4, b5, b6, b7, h8⟩ : ∃ b0 b1 b2 b3 b4 b5 b6 b7 : Int, bals 8 es day = [b0, b1, b2, b3, b4, b5, b6, b7] := ⟨_, _, _, _, _, _, _, _, rfl⟩
    replace hb : h'[h.size + 1]? = some (.cells #[.int .i64 b0, .int .i64 b1, .int .i64 b2, .int .i64 b3, .int .i64 b4, .int .i64 b5, .int .i64 b6, .int .i64 b7] 104) := by rw [hb, h8]; rfl
    simp only [hg, hb, hq, coreS, Value.cells, Value.oneCell', Nat.reduceAdd, Nat.reduceSub, Nat.reduceMul, Nat.reduceLeDiff, Int.reduceEq, Nat.reduceEqDiff, B1Fs79]
    refine ⟨fun hlt => absurd hlt (by omega), fun _ => ?_⟩
    refine stK_abs hq (by simp) fun h3 g3 u3 => ?_
    simp only [splice] at g3
    simp only [g3, coreS, stK_some, splice, Value.cells, Value.oneCell', Nat.reduceAdd, Nat.reduceSub, Nat.reduceMul, Nat.reduceLeDiff, Int.reduceEq, Nat.reduceEqDiff, B1Fs79]
    refine ⟨by rw [h8]; rfl, u3.ext hx (by omega)⟩
end Go.Proofs.YtepaekbjoombpaaGreatDoor
end
section
namespace Go.Proofs.YtepaekbjoombpaaGreatDoor
open Go Go.Proofs Go.Eng Tab
theorem chk_ok {acc cl : Int} {es : List En} (H : chk acc cl es = 0) : (2 ≤ acc ∧ acc ≤ 8) ∧ es.length ≤ 20 ∧ (0 ≤ cl ∧ cl ≤ 30) ∧ (∀ e ∈ es, okE acc e) ∧ sortedE es ∧ ∀ e ∈ es, e.f ≠ e.t := by
  unfold chk at H
  split at H
  · omega
  split at H
  · omega
  split at H
  · omega
  rename_i h1 h2 h3
  rw [not_or] at h1 h2 h3
  refine ⟨Classical.not_not.1 h1.1, by omega, Classical.not_not.1 h2.1, Classical.not_not.1 h2.2, Classical.not_not.1 h3.1, fun e he hh => h3.2 ⟨e, he, hh⟩⟩
theorem opn_ok {acc cl : Int} {es : List En} {days : List Int} (H : opn acc cl es days = 0) : chk acc cl es = 0 ∧ inB 0 30 days = true := by
  unfold opn at H
  split at H
  · rename_i h; exact absurd H h
  split at H
  · rename_i h1 h2; exact ⟨Classical.not_not.1 h1, h2⟩
  · omega
end Go.Proofs.YtepaekbjoombpaaGreatDoor
end
section
namespace Go.Proofs.YtepaekbjoombpaaGreatDoor
open Go Go.Proofs Go.Eng Tab
set_option maxRecDepth 100000
set_option linter.unusedSimpArgs false
set_option linter.unusedVariables false
set_option maxHeartbeats 1000000
set_option linter.defProp false
def B2Fs28 := (And.intro (And.intro (And.intro (And.intro @agg104 @agg24) (And.intro @agg3 (And.intro @by2 @by3))) (And.intro (And.intro @fo24_0 @inf104) (And.intro @inf2 (And.intro @inf24 @inf3)))) (And.intro (And.intro (And.intro @sz104 @sz2) (And.intro @sz24 (And.intro @sz3 @zero104))) (And.intro (And.intro @zero2 @zero3) (And.intro @Tryz.underlying37 (And.intro @Tryz.underlying40 @Tryz.underlying104)))))
noncomputable def balsR (acc cl : Int) (es : List En) (day : Int) : List Int := if opn acc cl es [day] = 0 then bals acc.toNat es day else []
theorem balances28 (acc cl : Int) (a : Option Addr) (n c : Nat) (es : List En) (day : Int) (h : Eng.Heap) (hr : Row h a (ensV es)) (hn : n = es.length) (hl : n ≤ 1000000) :
    CallsH Tryz.prog 28 #[.agg #[.int .i64 acc, .int .i64 cl, .slice a n c], .int .i64 day] h (fun v h' => (∃ b m k, v = .tuple #[.slice b m k, .int .i64 (opn acc cl es [day])] ∧ IntsV h' b m (balsR acc cl es day) ∧ m ≤ 8) ∧ Ext h h') := by
  (refine CallsH_of_exec Tryz.func28 rfl bod28 ?_; simp only [Tryz.ntmps28, Tryz.results28, coreS, stK_some, splice, Value.cells, Value.oneCell', Nat.reduceAdd, Nat.reduceSub, Nat.reduceMul, Nat.reduceLeDiff, Int.reduceEq, Nat.reduceEqDiff, B2Fs28])
  refine CallsH.mono (open72 acc cl a n c es _ 1 1 [day] _ ((hr.push _).push _) hn hl (intsV_one pn1) (by omega)) ?_
  rintro v h1 ⟨x1, H⟩
  have hb1 := x1.get pn0
  have y1 := x1.of_push.of_push
  rcases H with ⟨e0, g, rfl, hg, hsz⟩ | ⟨e0, rfl⟩
  · obtain ⟨hc, hd⟩ := opn_ok e0
    obtain ⟨ha, hl2, hcl, hok, hso, hft⟩ := chk_ok hc
    simp only [coreS, Value.cells, Value.oneCell', Nat.reduceAdd, Nat.reduceSub, Nat.reduceMul, Nat.reduceLeDiff, Int.reduceEq, Nat.reduceEqDiff, B2Fs28]
    refine CallsH.mono (balances79 g acc cl a n c es day h1 hg (hr.ext y1) hn (by omega) hok ha.2 hft) ?_
    rintro v h2 ⟨rfl, x2⟩
    obtain ⟨b0, b1, b2, b3, b4, b5, b6, b7, h8⟩ : ∃ b0 b1 b2 b3 b4 b5 b6 b7 : Int, bals 8 es day = [b0, b1, b2, b3, b4, b5, b6, b7] := ⟨_, _, _, _, _, _, _, _, rfl⟩
    have h9 : (ints (bals 8 es day)).toArray = #[.int .i64 b0, .int .i64 b1, .int .i64 b2, .int .i64 b3, .int .i64 b4, .int .i64 b5, .int .i64 b6, .int .i64 b7] := by rw [h8]; rfl
    have hb2 := x2.get hb1
    rw [h9]
    have hlt2 := lt_of_get hb2
    have hne : ¬ (h.size = h2.size) := by omega
    simp only [hne, if_false, hb2, coreS, stK_some, splice, Value.cells, Value.oneCell', Nat.reduceAdd, Nat.reduceSub, Nat.reduceMul, Nat.reduceLeDiff, Int.reduceEq, Nat.reduceEqDiff, B2Fs28]
    obtain ⟨k, rfl⟩ : ∃ k : Nat, acc = k := ⟨acc.toNat, by omega⟩
    have hk8 : k ≤ 8 := by omega
    have e8 : (((8 : Nat) : Int) - ((0 : Nat) : Int)).toNat = 8 := rfl
    simp only [ite_self, e8, Int.toNat_natCast]
    refine ⟨by omega, by omega, by omega, by omega, by omega, by omega, by omega, by omega, ?_⟩
    have hI := IntsV.block (xs := bals 8 es day) (by rw [h9]; exact pn0 (h := h2) (o := .cells #[.int .i64 b0, .int .i64 b1, .int .i64 b2, .int .i64 b3, .int .i64 b4, .int .i64 b5, .int .i64 b6, .int .i64 b7] 104) (o' := .cells (List.replicate k [Value.int .i64 0]).flatten.toArray 2))
    rw [bals_length] at hI
    refine cpy37 rfl rfl pn1 (by simp) hI fun h3 g3 u3 => ?_
    rw [bals_sub es day hk8] at g3
    have e9 : splice (List.replicate k [Value.int .i64 0]).flatten 0 (ints (bals k es day)) = ints (bals k es day) := by
      simp [splice, ints_length, bals_length]
    rw [e9] at g3
    simp only [coreS, Value.cells, Value.oneCell', Nat.reduceAdd, Nat.reduceSub, Nat.reduceMul, Nat.reduceLeDiff, Int.reduceEq, Nat.reduceEqDiff, B2Fs28]
    refine ⟨⟨_, k, k, by rw [e0], ?_, by omega⟩, u3.ext (((y1.trans x2).push _).push _) (by have := x2.size; have := y1.size; omega)⟩
    rw [balsR, if_pos e0, Int.toNat_natCast]
    have := IntsV.block g3
    rwa [bals_length] at this
  · simp only [e0, decide_false, Bool.not_false, coreS, Value.cells, Value.oneCell', Nat.reduceAdd, Nat.reduceSub, Nat.reduceMul, Nat.reduceLeDiff, Int.reduceEq, Nat.reduceEqDiff, B2Fs28]
    exact ⟨⟨_, _, _, rfl, by rw [balsR, if_neg e0]; exact IntsV.nil _, by omega⟩, y1⟩
end Go.Proofs.YtepaekbjoombpaaGreatDoor
end
section
namespace Go.Proofs.YtepaekbjoombpaaGreatDoor
set_option linter.unusedSimpArgs false
set_option linter.unusedVariables false
set_option linter.defProp false
namespace LS
def sm (f : Nat → Int) : Nat → Int
  | 0 => 0
  | n + 1 => sm f n + f n
theorem sm_congr {f g : Nat → Int} : ∀ {n : Nat}, (∀ i, i < n → f i = g i) → sm f n = sm g n
  | 0, _ => rfl
  | n + 1, h => by rw [sm, sm, sm_congr fun i hi => h i (by omega), h n (by omega)]
theorem sm_add (f g : Nat → Int) : ∀ n, sm (fun i => f i + g i) n = sm f n + sm g n
  | 0 => rfl
  | n + 1 => by rw [sm, sm, sm, sm_add f g n]; omega
theorem sm_one (a : Nat) (x : Int) : ∀ n, sm (fun i => if i = a then x else 0) n = if a < n then x else 0
  | 0 => rfl
  | n + 1 => by
    rw [sm, sm_one a x n]
    by_cases h : n = a
    · subst h; rw [if_neg (by omega), if_pos rfl, if_pos (by omega)]; omega
    · rw [if_neg h]
      by_cases h2 : a < n
      · rw [if_pos h2, if_pos (by omega)]; omega
      · rw [if_neg h2, if_neg (by omega)]; omega
theorem sm_zero {f : Nat → Int} {n : Nat} (h : ∀ i, i < n → f i = 0) : sm f n = 0 := by
  rw [sm_congr (g := fun _ => 0) h]
  induction n with
  | zero => rfl
  | succ n ih => rw [sm, ih fun i hi => h i (by omega)]; rfl
structure P where
  a : Nat
  b : Nat
  x : Int
def cs (f : Nat → Nat) (A r : Nat) (l : Nat → Int) : Int := sm (fun i => if f i = r then l i else 0) A
end LS
end Go.Proofs.YtepaekbjoombpaaGreatDoor
end
section
namespace Go.Proofs.YtepaekbjoombpaaGreatDoor
set_option linter.unusedSimpArgs false
set_option linter.unusedVariables false
set_option linter.defProp false
namespace LS
theorem and_half (x y : Nat) : (x &&& y) / 2 = x / 2 &&& y / 2 := by
  apply Nat.eq_of_testBit_eq
  intro i
  rw [Nat.testBit_and, Nat.testBit_div_two, Nat.testBit_div_two, Nat.testBit_div_two, Nat.testBit_and]
theorem and_low (x y : Nat) : (x &&& y) % 2 = x % 2 * (y % 2) := by
  have h := Nat.testBit_and x y 0
  rw [Nat.testBit_zero, Nat.testBit_zero, Nat.testBit_zero] at h
  rcases Nat.mod_two_eq_zero_or_one x with hx | hx <;> rcases Nat.mod_two_eq_zero_or_one y with hy | hy <;> rcases Nat.mod_two_eq_zero_or_one (x &&& y) with hz | hz <;> rw [hx, hy, hz] at h <;> rw [hx, hy, hz] <;> simp at h
theorem next_part : ∀ (q p l : Nat), q &&& l = q → p &&& l = p → q < p → q ≤ (p - 1) &&& l := fun q => by
  induction q using Nat.strongRecOn with
  | ind q ih =>
    intro p l hq hp hlt
    by_cases h0 : q = 0
    · omega
    have a1 := and_half q l
    have a2 := and_low q l
    have b1 := and_half p l
    have b2 := and_low p l
    rw [hq] at a1 a2
    rw [hp] at b1 b2
    have c1 := and_half (p - 1) l
    have c2 := and_low (p - 1) l
    rcases Nat.mod_two_eq_zero_or_one p with hp2 | hp2
    · have e1 : (p - 1) / 2 = p / 2 - 1 := by omega
      have e2 : (p - 1) % 2 = 1 := by omega
      rw [e1] at c1
      rw [e2, Nat.one_mul] at c2
      have h1 := ih (q / 2) (by omega) (p / 2) (l / 2) a1.symm b1.symm (by omega)
      have h2 : q % 2 ≤ l % 2 := by
        rcases Nat.mod_two_eq_zero_or_one l with h | h
        · rw [h, Nat.mul_zero] at a2; omega
        · omega
      omega
    · have e1 : (p - 1) / 2 = p / 2 := by omega
      rw [e1, ← b1] at c1
      omega
theorem and_sub (p l : Nat) : ((p - 1) &&& l) &&& l = (p - 1) &&& l := by rw [Nat.and_assoc, Nat.and_self]
theorem next_lt {p l : Nat} (hp : 0 < p) : (p - 1) &&& l < p := by
  have : (p - 1) &&& l ≤ p - 1 := Nat.and_le_left
  omega
inductive Gr (z : Nat → Prop) : Nat → Nat → Prop
  | nil : Gr z 0 0
  | cons (p r k : Nat) : z p → p ≠ 0 → p &&& r = 0 → Gr z r k → Gr z (p ||| r) (k + 1)
theorem apart_bit {x y : Nat} (h : x &&& y = 0) (i : Nat) : ¬ (x.testBit i = true ∧ y.testBit i = true) := fun ⟨h1, h2⟩ => by
  have := congrArg (fun n => n.testBit i) h
  simp only [Nat.testBit_and, h1, h2, Nat.zero_testBit, Bool.and_self] at this
  cases this
theorem apart_of {x y : Nat} (h : ∀ i, ¬ (x.testBit i = true ∧ y.testBit i = true)) : x &&& y = 0 := by
  apply Nat.eq_of_testBit_eq
  intro i
  rw [Nat.testBit_and, Nat.zero_testBit]
  have := h i
  cases hx : x.testBit i <;> cases hy : y.testBit i <;> simp_all
theorem Gr.first {z : Nat → Prop} {s k : Nat} (h : Gr z s k) {i : Nat} (hi : s.testBit i = true) : ∃ p r k', s = p ||| r ∧ p &&& r = 0 ∧ z p ∧ p.testBit i = true ∧ Gr z r k' ∧ k = k' + 1 := by
  induction h with
  | nil => rw [Nat.zero_testBit] at hi; cases hi
  | cons p r k hz hp hd hr ih =>
    by_cases hpi : p.testBit i = true
    · exact ⟨p, r, k, rfl, hd, hz, hpi, hr, rfl⟩
    · have hri : r.testBit i = true := by
        rw [Nat.testBit_or] at hi
        cases h1 : p.testBit i with
        | true => exact absurd h1 hpi
        | false => rw [h1] at hi; simpa using hi
      obtain ⟨p', r', k', e, hd', hz', hi', hr', hk⟩ := ih hri
      have hpp : ∀ j, ¬ (p.testBit j = true ∧ (p' ||| r').testBit j = true) := fun j => by rw [← e]; exact apart_bit hd j
      have h1 : p &&& r' = 0 := apart_of fun j hj => hpp j ⟨hj.1, by rw [Nat.testBit_or, hj.2, Bool.or_true]⟩
      refine ⟨p', p ||| r', k' + 1, ?_, ?_, hz', hi', .cons p r' k' hz hp h1 hr', by omega⟩
      · rw [e]
        apply Nat.eq_of_testBit_eq
        intro j
        simp only [Nat.testBit_or]
        cases p.testBit j <;> cases p'.testBit j <;> cases r'.testBit j <;> rfl
      · refine apart_of fun j hj => ?_
        rw [Nat.testBit_or, Bool.or_eq_true] at hj
        rcases hj.2 with h2 | h2
        · exact hpp j ⟨h2, by rw [Nat.testBit_or, hj.1, Bool.true_or]⟩
        · exact apart_bit hd' j ⟨hj.1, h2⟩
structure Most (z : Nat → Prop) (s k : Nat) : Prop where
  le : ∀ j, Gr z s j → j ≤ k
  is : k = 0 ∨ Gr z s k
theorem Gr.zero {z : Nat → Prop} {k : Nat} (h : Gr z 0 k) : k = 0 := by
  generalize hs : (0 : Nat) = s at h
  cases h with
  | nil => rfl
  | cons p r k hz hp hd hr =>
    exfalso
    have : p ≤ p ||| r := Nat.left_le_or
    omega
theorem most_zero (z : Nat → Prop) : Most z 0 0 := ⟨fun j h => by rw [h.zero]; exact Nat.le_refl _, .inl rfl⟩
theorem most_step {z : Nat → Prop} {s k i : Nat} (hs : s.testBit i = true) (hle : ∀ p r j, s = p ||| r → p &&& r = 0 → z p → p.testBit i = true → Gr z r j → j + 1 ≤ k) (his : k = 0 ∨ ∃ p r j, s = p ||| r ∧ p &&& r = 0 ∧ z p ∧ p ≠ 0 ∧ Gr z r j ∧ k = j + 1) : Most z s k := by
  refine ⟨fun j h => ?_, ?_⟩
  · obtain ⟨p, r, k', e, h1, h2, h3, h4, h5⟩ := h.first hs
    have := hle p r k' e h1 h2 h3 h4
    omega
  · rcases his with h | ⟨p, r, j, rfl, h2, h3, h4, h5, rfl⟩
    · exact .inl h
    · exact .inr (.cons p r j h3 h4 h2 h5)
end LS
end Go.Proofs.YtepaekbjoombpaaGreatDoor
end
section
namespace Go.Proofs.YtepaekbjoombpaaGreatDoor
set_option linter.unusedSimpArgs false
set_option linter.unusedVariables false
set_option linter.defProp false
namespace LS
def msk (P : Nat → Bool) : Nat → Nat
  | 0 => 0
  | n + 1 => msk P n ||| if P n then 2 ^ n else 0
theorem msk_bit (P : Nat → Bool) : ∀ (n i : Nat), (msk P n).testBit i = (decide (i < n) && P i)
  | 0, i => by rw [msk, Nat.zero_testBit]; simp
  | n + 1, i => by
    rw [msk, Nat.testBit_or, msk_bit P n i]
    have h2 : (if P n then 2 ^ n else 0).testBit i = (decide (i = n) && P n) := by
      cases h : P n with
      | true =>
        rw [if_pos rfl, Nat.testBit_two_pow, Bool.and_true]
        exact decide_eq_decide.2 ⟨fun e => e.symm, fun e => e.symm⟩
      | false => rw [if_neg (by decide), Nat.zero_testBit, Bool.and_false]
    rw [h2]
    by_cases e : i = n
    · subst e
      simp
    · have e1 : decide (i < n + 1) = decide (i < n) := decide_eq_decide.2 ⟨fun h => by omega, fun h => by omega⟩
      rw [e1, decide_eq_false e]
      simp
def zero (l : Nat → Int) (A s : Nat) : Prop := sm (fun i => if s.testBit i then l i else 0) A = 0
def opn (l : Nat → Int) (i : Nat) : Bool := !decide (l i = 0)
def opens (l : Nat → Int) (A : Nat) : Nat := ((List.range A).filter (opn l)).length
end LS
end Go.Proofs.YtepaekbjoombpaaGreatDoor
end
section
namespace Go.Proofs.YtepaekbjoombpaaGreatDoor
set_option linter.unusedSimpArgs false
set_option linter.unusedVariables false
set_option linter.defProp false
namespace LS
def Pt (z : Nat → Prop) : Nat → List Nat → Prop
  | s, [] => s = 0
  | s, p :: ps => ∃ r, s = p ||| r ∧ p &&& r = 0 ∧ z p ∧ p ≠ 0 ∧ Pt z r ps
theorem Pt.gr {z : Nat → Prop} : ∀ {ps : List Nat} {s : Nat}, Pt z s ps → Gr z s ps.length
  | [], s, h => by
    have h : s = 0 := h
    rw [h]
    exact .nil
  | p :: ps, s, ⟨r, h1, h2, h3, h4, h5⟩ => by
    rw [h1]
    exact .cons p r _ h3 h4 h2 (Pt.gr h5)
theorem Pt.split {z : Nat → Prop} : ∀ {ps : List Nat} {s p q q' : Nat}, Pt z s ps → p ∈ ps → p = q ||| q' → q &&& q' = 0 → z q → z q' → q ≠ 0 → q' ≠ 0 → Gr z s (ps.length + 1)
  | [], _, _, _, _, _, h, _, _, _, _, _, _ => absurd h List.not_mem_nil
  | x :: ps, s, p, q, q', ⟨r, h1, h2, h3, h4, h5⟩, hp, e, hd, hz, hz', hq, hq' => by
    rcases List.mem_cons.1 hp with e2 | hp
    · subst e2
      have hxr := fun i => apart_bit h2 i
      have d1 : q' &&& r = 0 := apart_of fun i hi => hxr i ⟨by rw [e, Nat.testBit_or, hi.1, Bool.or_true], hi.2⟩
      have d2 : q &&& (q' ||| r) = 0 := apart_of fun i hi => by
        have h6 := hi.2
        rw [Nat.testBit_or, Bool.or_eq_true] at h6
        rcases h6 with h6 | h6
        · exact apart_bit hd i ⟨hi.1, h6⟩
        · exact hxr i ⟨by rw [e, Nat.testBit_or, hi.1, Bool.true_or], h6⟩
      have := Gr.cons q (q' ||| r) _ hz hq d2 (.cons q' r _ hz' hq' d1 (Pt.gr h5))
      rw [h1, e, Nat.or_assoc]
      exact this
    · rw [h1]
      exact .cons x r _ h3 h4 h2 (Pt.split h5 hp e hd hz hz' hq hq')
end LS
end Go.Proofs.YtepaekbjoombpaaGreatDoor
end
section
namespace Go.Proofs.YtepaekbjoombpaaGreatDoor
set_option linter.unusedSimpArgs false
set_option linter.unusedVariables false
set_option linter.defProp false
namespace LS
theorem or_half (x y : Nat) : (x ||| y) / 2 = x / 2 ||| y / 2 := by
  apply Nat.eq_of_testBit_eq
  intro i
  rw [Nat.testBit_or, Nat.testBit_div_two, Nat.testBit_div_two, Nat.testBit_div_two, Nat.testBit_or]
theorem or_low (x y : Nat) : (x ||| y) % 2 = max (x % 2) (y % 2) := by
  have h := Nat.testBit_or x y 0
  rw [Nat.testBit_zero, Nat.testBit_zero, Nat.testBit_zero] at h
  rcases Nat.mod_two_eq_zero_or_one x with hx | hx <;> rcases Nat.mod_two_eq_zero_or_one y with hy | hy <;> rcases Nat.mod_two_eq_zero_or_one (x ||| y) with hz | hz <;> rw [hx, hy, hz] at h <;> rw [hx, hy, hz] <;> simp at h <;> decide
theorem or_add : ∀ (p r : Nat), p &&& r = 0 → p ||| r = p + r := fun p => by
  induction p using Nat.strongRecOn with
  | ind p ih =>
    intro r h
    by_cases h0 : p = 0
    · subst h0; rw [Nat.zero_or, Nat.zero_add]
    have a1 := and_half p r
    have a2 := and_low p r
    rw [h] at a1 a2
    have b1 := or_half p r
    have b2 := or_low p r
    have h1 := ih (p / 2) (by omega) (r / 2) (by rw [← a1])
    rw [h1] at b1
    have h2 : p % 2 = 0 ∨ r % 2 = 0 := by
      rcases Nat.mod_two_eq_zero_or_one p with hp | hp
      · exact .inl hp
      · rw [hp, Nat.one_mul] at a2; exact .inr a2.symm
    have h3 : max (p % 2) (r % 2) = p % 2 + r % 2 := by rcases h2 with h | h <;> rw [h] <;> omega
    omega
theorem part_rest {p s : Nat} (h : p &&& s = p) : s = p ||| (s - p) ∧ p &&& (s - p) = 0 := by
  obtain ⟨r, hr⟩ : ∃ r, r = s ^^^ p := ⟨_, rfl⟩
  have hb : ∀ i, p.testBit i = true → s.testBit i = true := fun i hi => by
    rw [← h, Nat.testBit_and, Bool.and_eq_true] at hi
    exact hi.2
  have h1 : p &&& r = 0 := apart_of fun i hi => by
    rw [hr, Nat.testBit_xor, hb i hi.1, hi.1] at hi
    exact Bool.noConfusion hi.2
  have h2 : s = p ||| r := by
    apply Nat.eq_of_testBit_eq
    intro i
    rw [Nat.testBit_or, hr, Nat.testBit_xor]
    have := hb i
    cases hp : p.testBit i <;> cases hs : s.testBit i <;> simp_all
  have h3 := or_add p r h1
  have h4 : r = s - p := by omega
  rw [← h4]
  exact ⟨h2, h1⟩
theorem rest_of {p r s : Nat} (h : s = p ||| r) (hd : p &&& r = 0) : r = s - p ∧ p &&& s = p := by
  have h1 := or_add p r hd
  refine ⟨by omega, ?_⟩
  apply Nat.eq_of_testBit_eq
  intro i
  rw [h, Nat.testBit_and, Nat.testBit_or]
  cases p.testBit i <;> rfl
structure Loop (z : Nat → Prop) (s i part best : Nat) : Prop where
  in_ : part &&& s = part
  le : ∀ q j, part < q → q &&& s = q → z q → q.testBit i = true → Gr z (s - q) j → j + 1 ≤ best
  is : best = 0 ∨ ∃ q j, q &&& s = q ∧ z q ∧ q ≠ 0 ∧ Gr z (s - q) j ∧ best = j + 1
theorem Loop.start (z : Nat → Prop) (s i : Nat) : Loop z s i s 0 := ⟨Nat.and_self s, fun q j h hq => by
  have : q &&& s ≤ s := Nat.and_le_right
  omega, .inl rfl⟩
theorem Loop.skip {z : Nat → Prop} {s i part best : Nat} (L : Loop z s i part best) (h0 : 0 < part) (h : z part → part.testBit i = true → False) : Loop z s i ((part - 1) &&& s) best := ⟨and_sub _ _, fun q j h1 h2 h3 h4 h5 => by
  by_cases e : q = part
  · subst e; exact (h h3 h4).elim
  · by_cases h6 : part < q
    · exact L.le q j h6 h2 h3 h4 h5
    · have := next_part q part s h2 L.in_ (by omega)
      omega, L.is⟩
theorem Loop.take {z : Nat → Prop} {s i part best k : Nat} (L : Loop z s i part best) (h0 : 0 < part) (hz : z part) (hk : Most z (s - part) k) (hk2 : k ≠ 0 ∨ Gr z (s - part) 0) : Loop z s i ((part - 1) &&& s) (max best (1 + k)) := ⟨and_sub _ _, fun q j h1 h2 h3 h4 h5 => by
  by_cases e : q = part
  · subst e
    have := hk.le j h5
    omega
  · by_cases h6 : part < q
    · have := L.le q j h6 h2 h3 h4 h5; omega
    · have := next_part q part s h2 L.in_ (by omega)
      omega, by
  have hg : Gr z (s - part) k := by
    rcases hk.is with h | h
    · subst h
      rcases hk2 with h | h
      · exact absurd rfl h
      · exact h
    · exact h
  rcases L.is with h | ⟨q, j, a, b, c, d, e⟩
  · exact .inr ⟨part, k, L.in_, hz, by omega, hg, by omega⟩
  · by_cases hm : best ≤ 1 + k
    · exact .inr ⟨part, k, L.in_, hz, by omega, hg, by omega⟩
    · exact .inr ⟨q, j, a, b, c, d, by omega⟩⟩
theorem Loop.fin {z : Nat → Prop} {s i best : Nat} (L : Loop z s i 0 best) (hs : s.testBit i = true) : Most z s best := by
  refine most_step hs (fun p r j e hd hz hi hr => ?_) ?_
  · obtain ⟨h1, h2⟩ := rest_of e hd
    rw [h1] at hr
    have : p ≠ 0 := fun e => by rw [e, Nat.zero_testBit] at hi; cases hi
    exact L.le p j (by omega) h2 hz hi hr
  · rcases L.is with h | ⟨q, j, a, b, c, d, e⟩
    · exact .inl h
    · obtain ⟨h1, h2⟩ := part_rest a
      exact .inr ⟨q, s - q, j, h1, h2, b, c, d, e⟩
theorem most_pos {z : Nat → Prop} {s k : Nat} (h : Most z s k) (hz : z s) (hs : s ≠ 0) : k ≠ 0 := by
  have h1 : Gr z (s ||| 0) (0 + 1) := .cons s 0 0 hz hs (Nat.and_zero s) .nil
  rw [Nat.or_zero] at h1
  have := h.le _ h1
  omega
theorem sm_parts (l : Nat → Int) (A : Nat) {p r : Nat} (hd : p &&& r = 0) : sm (fun i => if (p ||| r).testBit i then l i else 0) A = sm (fun i => if p.testBit i then l i else 0) A + sm (fun i => if r.testBit i then l i else 0) A := by
  rw [← sm_add]
  refine sm_congr fun i _ => ?_
  have := apart_bit hd i
  rw [Nat.testBit_or]
  cases hp : p.testBit i <;> cases hr : r.testBit i
  · simp
  · simp
  · simp
  · exact absurd ⟨hp, hr⟩ this
theorem zero_rest {l : Nat → Int} {A p s : Nat} (h : p &&& s = p) (hs : zero l A s) (hp : zero l A p) : zero l A (s - p) := by
  obtain ⟨h1, h2⟩ := part_rest h
  have h3 := sm_parts l A h2
  rw [← h1] at h3
  unfold zero at *
  omega
theorem most_made {l : Nat → Int} {A s k : Nat} (h : Most (zero l A) s k) (hz : zero l A s) : k ≠ 0 ∨ Gr (zero l A) s 0 := by
  by_cases hs : s = 0
  · rw [hs]; exact .inr .nil
  · exact .inl (most_pos h hz hs)
end LS
end Go.Proofs.YtepaekbjoombpaaGreatDoor
end
section
namespace Go.Proofs.YtepaekbjoombpaaGreatDoor
set_option linter.unusedSimpArgs false
set_option linter.unusedVariables false
set_option linter.defProp false
namespace LS
def lsum (F : Nat → Int) : List Nat → Int
  | [] => 0
  | x :: l => F x + lsum F l
theorem lsum_perm {F : Nat → Int} {l k : List Nat} (h : l.Perm k) : lsum F l = lsum F k := by
  induction h with
  | nil => rfl
  | cons x _ ih => rw [lsum, lsum, ih]
  | swap x y l => simp only [lsum]; omega
  | trans _ _ h1 h2 => exact h1.trans h2
theorem lsum_append (F : Nat → Int) : ∀ l k : List Nat, lsum F (l ++ k) = lsum F l + lsum F k
  | [], k => by simp [lsum]
  | x :: l, k => by rw [List.cons_append, lsum, lsum, lsum_append F l k]; omega
theorem sm_lsum (F : Nat → Int) : ∀ A, sm F A = lsum F (List.range A)
  | 0 => rfl
  | A + 1 => by rw [sm, List.range_succ, lsum_append, sm_lsum F A]; simp [lsum]
theorem lsum_map (F : Nat → Int) (f : Nat → Nat) : ∀ l : List Nat, lsum F (l.map f) = lsum (fun x => F (f x)) l
  | [] => rfl
  | x :: l => by rw [List.map_cons, lsum, lsum, lsum_map F f l]
theorem permN : ∀ {o F : List Nat}, o.Nodup → (∀ x, x ∈ o → x ∈ F) → F.length = o.length → o.Perm F
  | [], F, _, _, h => by
    have : F = [] := List.eq_nil_of_length_eq_zero (by simpa using h)
    rw [this]
  | x :: o, F, hn, hs, h => by
    obtain ⟨h1, h2⟩ := List.nodup_cons.1 hn
    have hx := hs x List.mem_cons_self
    have h3 : (F.erase x).length = o.length := by rw [List.length_erase_of_mem hx, h, List.length_cons]; rfl
    have h4 := permN h2 (fun y hy => (List.mem_erase_of_ne (fun e => h1 (by rw [← e]; exact hy))).2 (hs y (List.mem_cons_of_mem _ hy))) h3
    exact (h4.cons x).trans (List.perm_cons_erase hx).symm
structure Ren (A : Nat) (f : Nat → Nat) : Prop where
  lt : ∀ i, i < A → f i < A
  inj : ∀ i k, i < A → k < A → f i = f k → i = k
theorem Ren.perm {A : Nat} {f : Nat → Nat} (R : Ren A f) : ((List.range A).map f).Perm (List.range A) := by
  refine permN ?_ (fun x hx => ?_) (by simp)
  · rw [List.Nodup, List.pairwise_map]
    exact List.nodup_range.imp_of_mem fun {a b} ha hb hne e => hne (R.inj a b (List.mem_range.1 ha) (List.mem_range.1 hb) e)
  · obtain ⟨i, hi, rfl⟩ := List.mem_map.1 hx
    exact List.mem_range.2 (R.lt i (List.mem_range.1 hi))
theorem Ren.sum {A : Nat} {f : Nat → Nat} (R : Ren A f) (F : Nat → Int) : sm (fun i => F (f i)) A = sm F A := by
  rw [sm_lsum, sm_lsum, ← lsum_map, lsum_perm R.perm]
theorem Ren.sur {A : Nat} {f : Nat → Nat} (R : Ren A f) {i : Nat} (hi : i < A) : ∃ k, k < A ∧ f k = i := by
  have := (R.perm.mem_iff (a := i)).2 (List.mem_range.2 hi)
  obtain ⟨k, hk, e⟩ := List.mem_map.1 this
  exact ⟨k, List.mem_range.1 hk, e⟩
def img (f : Nat → Nat) (A s : Nat) : Nat := msk (fun j => s.testBit (f j)) A
theorem img_bit (f : Nat → Nat) (A s i : Nat) : (img f A s).testBit i = (decide (i < A) && s.testBit (f i)) := msk_bit _ A i
theorem img_or (f : Nat → Nat) (A p r : Nat) : img f A (p ||| r) = img f A p ||| img f A r := by
  apply Nat.eq_of_testBit_eq
  intro i
  rw [Nat.testBit_or, img_bit, img_bit, img_bit, Nat.testBit_or]
  cases decide (i < A) <;> simp
theorem img_apart {f : Nat → Nat} {A p r : Nat} (h : p &&& r = 0) : img f A p &&& img f A r = 0 := apart_of fun i hi => by
  rw [img_bit, img_bit, Bool.and_eq_true, Bool.and_eq_true] at hi
  exact apart_bit h (f i) ⟨hi.1.2, hi.2.2⟩
theorem img_zero {f : Nat → Nat} {A s : Nat} {l : Nat → Int} (R : Ren A f) (h : zero l A s) : zero (fun j => l (f j)) A (img f A s) := by
  unfold zero at h ⊢
  refine Eq.trans ?_ ((R.sum fun i => if s.testBit i then l i else 0).trans h)
  refine sm_congr fun i hi => ?_
  rw [img_bit, decide_eq_true hi, Bool.true_and]
def low (A s : Nat) : Prop := ∀ i, s.testBit i = true → i < A
theorem img_ne {f : Nat → Nat} {A s : Nat} (R : Ren A f) (hl : low A s) (h : s ≠ 0) : img f A s ≠ 0 := fun e => by
  obtain ⟨i, hi⟩ := Nat.exists_testBit_of_ne_zero h
  obtain ⟨k, hk, rfl⟩ := R.sur (hl i hi)
  have := congrArg (fun n => n.testBit k) e
  simp only [img_bit, hk, decide_true, hi, Bool.and_self, Nat.zero_testBit] at this
  cases this
theorem img_gr {f : Nat → Nat} {A : Nat} {l : Nat → Int} (R : Ren A f) {s k : Nat} (h : Gr (zero l A) s k) (hl : low A s) : Gr (zero (fun j => l (f j)) A) (img f A s) k := by
  induction h with
  | nil =>
    have : img f A 0 = 0 := by
      apply Nat.eq_of_testBit_eq
      intro i
      rw [img_bit, Nat.zero_testBit, Nat.zero_testBit, Bool.and_false]
    rw [this]
    exact .nil
  | cons p r k hz hp hd _ ih =>
    rw [img_or]
    exact .cons _ _ _ (img_zero R hz) (img_ne R (fun i hi => hl i (by rw [Nat.testBit_or, hi, Bool.true_or])) hp) (img_apart hd) (ih fun i hi => hl i (by rw [Nat.testBit_or, hi, Bool.or_true]))
theorem img_img {f g : Nat → Nat} {A s : Nat} (hg : Ren A g) (h : ∀ i, i < A → f (g i) = i) (hl : low A s) : img g A (img f A s) = s := by
  apply Nat.eq_of_testBit_eq
  intro i
  rw [img_bit]
  by_cases hi : i < A
  · rw [decide_eq_true hi, img_bit, decide_eq_true (hg.lt i hi), h i hi]; simp
  · rw [decide_eq_false hi]
    cases hb : s.testBit i with
    | false => rfl
    | true => exact absurd (hl i hb) hi
theorem most_ren {f g : Nat → Nat} {A s k : Nat} {l : Nat → Int} (hf : Ren A f) (hg : Ren A g) (h : ∀ i, i < A → f (g i) = i) (hl : low A s) (hm : Most (zero l A) s k) : Most (zero (fun j => l (f j)) A) (img f A s) k := by
  refine ⟨fun j hj => ?_, ?_⟩
  · have h1 := img_gr hg hj fun i hi => by
      rw [img_bit, Bool.and_eq_true] at hi
      exact of_decide_eq_true hi.1
    rw [img_img hg h hl] at h1
    refine hm.le j ?_
    have e : zero (fun j => (fun j => l (f j)) (g j)) A = zero l A := by
      funext t
      unfold zero
      rw [sm_congr (g := fun i => if t.testBit i then l i else 0) fun i hi => by simp only [h i hi]]
    rw [e] at h1
    exact h1
  · rcases hm.is with h0 | h0
    · exact .inl h0
    · exact .inr (img_gr hf h0 hl)
theorem img_open (f : Nat → Nat) (A : Nat) (hf : ∀ i, i < A → f i < A) (l : Nat → Int) : img f A (msk (opn l) A) = msk (opn fun j => l (f j)) A := by
  apply Nat.eq_of_testBit_eq
  intro i
  rw [img_bit, msk_bit, msk_bit]
  by_cases hi : i < A
  · rw [decide_eq_true hi, decide_eq_true (hf i hi)]; rfl
  · rw [decide_eq_false hi]; rfl
theorem low_open (l : Nat → Int) (A : Nat) : low A (msk (opn l) A) := fun i hi => by
  rw [msk_bit, Bool.and_eq_true] at hi
  exact of_decide_eq_true hi.1
end LS
end Go.Proofs.YtepaekbjoombpaaGreatDoor
end
section
namespace Go.Proofs.YtepaekbjoombpaaGreatDoor
set_option linter.unusedSimpArgs false
set_option linter.unusedVariables false
set_option linter.defProp false
namespace LS
theorem opens_ren {A : Nat} {f : Nat → Nat} (R : Ren A f) (l : Nat → Int) : opens (fun j => l (f j)) A = opens l A := by
  unfold opens
  rw [← (R.perm.filter (opn l)).length_eq, List.filter_map, List.length_map]
  rfl
end LS
end Go.Proofs.YtepaekbjoombpaaGreatDoor
end
section
namespace Go.Proofs.YtepaekbjoombpaaGreatDoor
open Go Go.Proofs Go.Eng
set_option maxRecDepth 100000
set_option linter.unusedSimpArgs false
set_option linter.unusedVariables false
set_option linter.defProp false
theorem wrap_in64 {n : Int} (h : InK .i64 n) : IntKind.i64.wrap n = n := wrap_inK h
theorem gbits_and (a b : Nat) (ha : a < 1000000) (hb : b < 1000000) : bitsI .and .i64 (a : Int) (b : Int) = ((a &&& b : Nat) : Int) := by
  have h1 : a &&& b ≤ a := Nat.and_le_left
  unfold bitsI
  show IntKind.i64.wrap ((BitVec.ofInt 64 (a : Int) &&& BitVec.ofInt 64 (b : Int)).toNat : Int) = _
  rw [BitVec.toNat_and, BitVec.ofInt_natCast, BitVec.ofInt_natCast, BitVec.toNat_ofNat, BitVec.toNat_ofNat, Nat.mod_eq_of_lt (by omega), Nat.mod_eq_of_lt (by omega)]
  exact wrap_in64 (by rw [inK_i64]; omega)
theorem gbits_or (a b : Nat) (ha : a < 2 ^ 20) (hb : b < 2 ^ 20) : bitsI .or .i64 (a : Int) (b : Int) = ((a ||| b : Nat) : Int) := by
  have h1 : a ||| b < 2 ^ 20 := Nat.or_lt_two_pow ha hb
  unfold bitsI
  show IntKind.i64.wrap ((BitVec.ofInt 64 (a : Int) ||| BitVec.ofInt 64 (b : Int)).toNat : Int) = _
  rw [BitVec.toNat_or, BitVec.ofInt_natCast, BitVec.ofInt_natCast, BitVec.toNat_ofNat, BitVec.toNat_ofNat, Nat.mod_eq_of_lt (by omega), Nat.mod_eq_of_lt (by omega)]
  exact wrap_in64 (by rw [inK_i64]; omega)
theorem gbits_not (a b : Nat) (ha : a < 1000000) (h : b &&& a = b) : bitsI .andNot .i64 (a : Int) (b : Int) = ((a - b : Nat) : Int) := by
  have hb : b ≤ a := by rw [← h]; exact Nat.and_le_right
  obtain ⟨e1, e2⟩ := LS.part_rest h
  have key : a &&& (2 ^ 64 - 1 - b) = a - b := by
    apply Nat.eq_of_testBit_eq
    intro i
    have h3 : (2 ^ 64 - 1 - b).testBit i = (decide (i < 64) && !b.testBit i) := by
      have := Nat.testBit_two_pow_sub_succ (x := b) (n := 64) (by omega) i
      rw [show 2 ^ 64 - 1 - b = 2 ^ 64 - (b + 1) by omega]
      exact this
    have h4 : a.testBit i = (b.testBit i || (a - b).testBit i) := by
      conv => lhs; rw [e1]
      rw [Nat.testBit_or]
    have h5 := LS.apart_bit e2 i
    have h6 : a.testBit i = true → i < 64 := fun hi => by
      refine Classical.byContradiction fun hh => ?_
      have : a < 2 ^ i := Nat.lt_of_lt_of_le (by omega : a < 2 ^ 64) (Nat.pow_le_pow_right (by decide) (by omega))
      rw [Nat.testBit_lt_two_pow this] at hi
      cases hi
    rw [Nat.testBit_and, h3]
    cases hb1 : b.testBit i with
    | true =>
      cases hr : (a - b).testBit i with
      | true => exact absurd ⟨hb1, hr⟩ h5
      | false => simp
    | false =>
      rw [hb1, Bool.false_or] at h4
      cases hr : (a - b).testBit i with
      | true =>
        rw [hr] at h4
        simp [h4, h6 h4]
      | false =>
        rw [hr] at h4
        simp [h4]
  unfold bitsI
  show IntKind.i64.wrap ((BitVec.ofInt 64 (a : Int) &&& ~~~BitVec.ofInt 64 (b : Int)).toNat : Int) = _
  rw [BitVec.toNat_and, BitVec.toNat_not, BitVec.ofInt_natCast, BitVec.ofInt_natCast, BitVec.toNat_ofNat, BitVec.toNat_ofNat, Nat.mod_eq_of_lt (by omega), Nat.mod_eq_of_lt (by omega), key]
  exact wrap_in64 (by rw [inK_i64]; omega)
theorem low_all : ((List.range 256).all fun a => a == 0 || (List.range 8).any fun i => decide (bitsI .and .i64 (a : Int) (-(a : Int)) = ((2 ^ i : Nat) : Int)) && a.testBit i) = true := by kernel_rfl
theorem low_bit {a : Nat} (h0 : a ≠ 0) (ha : a < 256) : ∃ i, i < 8 ∧ bitsI .and .i64 (a : Int) (-(a : Int)) = ((2 ^ i : Nat) : Int) ∧ a.testBit i = true := by
  have h := List.all_eq_true.1 low_all a (List.mem_range.2 ha)
  rw [Bool.or_eq_true, beq_iff_eq] at h
  rcases h with h | h
  · exact absurd h h0
  obtain ⟨i, hi, h⟩ := List.any_eq_true.1 h
  rw [Bool.and_eq_true, decide_eq_true_eq] at h
  exact ⟨i, List.mem_range.1 hi, h.1, h.2⟩
theorem and_two (p i : Nat) : p &&& 2 ^ i = if p.testBit i then 2 ^ i else 0 := by
  apply Nat.eq_of_testBit_eq
  intro j
  rw [Nat.testBit_and, Nat.testBit_two_pow]
  by_cases h : i = j
  · subst h
    cases hp : p.testBit i <;> simp
  · cases hp : p.testBit i <;> simp [h, Nat.testBit_two_pow]
theorem gbit_test (a j : Nat) (ha : a < 1000000) : bitsI .and .i64 ((a : Int) / 2 ^ j) 1 = if a.testBit j then 1 else 0 := by
  have h2 : (a : Int) / 2 ^ j = ((a / 2 ^ j : Nat) : Int) := by
    rw [Int.natCast_ediv, Int.natCast_pow]; rfl
  have h3 : a / 2 ^ j ≤ a := Nat.div_le_self _ _
  have h4 := gbits_and (a / 2 ^ j) 1 (by omega) (by omega)
  rw [h2, show (1 : Int) = ((1 : Nat) : Int) from rfl, h4, Nat.and_one_is_mod]
  have h5 : a.testBit j = decide (a / 2 ^ j % 2 = 1) := Nat.testBit_eq_decide_div_mod_eq
  rw [h5]
  by_cases h : a / 2 ^ j % 2 = 1
  · rw [h]; simp
  · have : a / 2 ^ j % 2 = 0 := by omega
    rw [this]; simp
theorem most_one {z : Nat → Prop} {s k j : Nat} (h : LS.Most z s k) (g : LS.Most z s j) : k = j := by
  have key : ∀ {k j : Nat}, LS.Most z s k → LS.Most z s j → k ≤ j := fun {k j} h g => by
    rcases h.is with e | e
    · omega
    · exact g.le _ e
  exact Nat.le_antisymm (key h g) (key g h)
end Go.Proofs.YtepaekbjoombpaaGreatDoor
end
section
namespace Go.Proofs.YtepaekbjoombpaaGreatDoor
open Go Go.Proofs Go.Eng Go.Run Tab
set_option maxRecDepth 100000
set_option linter.unusedSimpArgs false
set_option linter.unusedVariables false
set_option linter.defProp false
set_option maxHeartbeats 2000000
set_option linter.defProp false
def G1Fs97 := (And.intro (And.intro (And.intro @agg104 @by3) (And.intro @inf104 @inf3)) (And.intro (And.intro @sz104 @sz3) (And.intro @zero3 (And.intro @Tryz.underlying40 @Tryz.underlying104))))
def G1Fs126 := (And.intro (And.intro @agg3 @fo162_0) (And.intro @inf3 @sz3))
theorem index_numT {P : Program} {t el : TypeId} {len : Nat} (hu : P.underlying t = some (.array len el)) (ha : aggT P el = some false) (hi : (P.info? el).isSome = true) (hs : szT P el = 1) {x i : Operand} {cs : List Value} {j : Nat} {u : Value} {ty : TypeId} {er : Eng.Env} {h : Eng.Heap} {K : Value → Eng.Heap → Prop} (hx : ev er x = .agg cs.toArray) (hj : ev er i = .int .i64 j) (hl : j < len) (hc : cs[j]? = some u) (H : K u h) : opSem P (.index t x i) ty er h K := by
  obtain ⟨inf, hinf⟩ := Option.isSome_iff_exists.1 hi
  have hsz : inf.size = 1 := by simpa [szT, hinf] using hs
  obtain ⟨v, h1, h2⟩ := part_sound (P := P) (t := el) (cs := cs.toArray) (off := j * inf.size) (h := h) (K := fun v _ => v = u) (by
    rw [hsz, Nat.mul_one]
    simp only [partW, ha, List.toList_toArray, hc, onV])
  subst h1
  refine opSem_pure rfl _ H fun w _ => ?_
  have hr : (0 : Int) ≤ (j : Int) ∧ (j : Int) < len := ⟨by omega, by omega⟩
  simp [execOp, Instr.index, hx, hj, asIntOf, run_underlying hu, hr, sizeOf, typeInfo, hinf, h2]
  intro hh; omega
theorem idsW_arr {cs : Array Value} {q : IntKind} {n : Int} {m : Nat} {el : TypeId} {h : Eng.Heap} {K : Value → Eng.Heap → Prop} {F : Prop} : idsW (.agg cs) (.int q n) (some (.array m el)) h K F = F := by unfold idsW; rfl
def nz (l : List Nat) : List Int := l.map fun j : Nat => (j : Int)
theorem nz_length (l : List Nat) : (nz l).length = l.length := by simp [nz]
theorem nz_getD {l : List Nat} {i : Nat} : (nz l).getD i 0 = ((l.getD i 0 : Nat) : Int) := by
  simp only [nz, List.getD_eq_getElem?_getD, List.getElem?_map]
  cases l[i]? <;> rfl
theorem nz_snoc (l : List Nat) (i : Nat) : nz l ++ [(i : Int)] = nz (l ++ [i]) := by simp [nz]
theorem app40 {h : Eng.Heap} {er : Env} {ty : TypeId} {m0 : Nat} {x y : Operand} {a b : Option Addr} {len cap m c : Nat} {xs ys : List Int} {K : Value → Eng.Heap → Prop} (hx : ev er x = .slice a len cap) (hy : ev er y = .slice b m c) (O : OwnI m0 h 3 a len cap xs) (h0h : m0 ≤ h.size) (I : IntsV h b m ys) (hb : len + m ≤ 100000)
    (H : ∀ a' cap' h', OwnI m0 h' 3 a' (len + m) cap' (xs ++ ys) → App h h' a a' → K (.slice a' (len + m) cap') h') : opSem Tryz.prog (.call ⟨.builtin .append, #[x, y], #[40, 40]⟩) ty er h K :=
  append_intsT Tryz.underlying40 Tryz.underlying40 inf3 sz3 (by rw [by3]; decide) zero3 hx hy O h0h I hb H
theorem has126 (s i : Nat) (hs : s < 1000000) (hi : i < 8) (h : Eng.Heap) : CallsH Tryz.prog 126 #[.agg #[.int .i64 s], .int .i64 i] h (fun v h' => v = .bool (s.testBit i) ∧ Ext h h') := by
  (refine CallsH_of_exec Tryz.func126 rfl bod126 ?_; simp only [Tryz.ntmps126, Tryz.results126, coreS, stK_some, splice, Value.cells, Value.oneCell', Nat.reduceAdd, Nat.reduceSub, Nat.reduceMul, Nat.reduceLeDiff, Int.reduceEq, Nat.reduceEqDiff, G1Fs126])
  have hb := gbit_test s i hs
  simp only [Int.toNat_natCast, hb]
  refine ⟨by omega, by simp [IntKind.bits]; omega, ?_, (Ext.refl h).push _⟩
  cases s.testBit i <;> rfl
def opL8 (xs : List Int) (k : Nat) : List Nat := (List.range k).filter fun i => !decide (xs.getD i 0 = 0)
theorem opL8_next (xs : List Int) (k : Nat) : opL8 xs (k + 1) = opL8 xs k ++ if xs.getD k 0 = 0 then [] else [k] := by
  unfold opL8
  simp only [List.range_succ, List.filter_append, List.filter_cons, List.filter_nil]
  congr 1
  by_cases h : xs.getD k 0 = 0 <;> simp [h]
theorem opL8_le (xs : List Int) (k : Nat) : (opL8 xs k).length ≤ k := by
  have := List.length_filter_le (fun i => !decide (xs.getD i 0 = 0)) (List.range k)
  rwa [List.length_range] at this
theorem open97 (xs : List Int) (hl : xs.length = 8) (h : Eng.Heap) : CallsH Tryz.prog 97 #[.agg (ints xs).toArray] h (fun v h' => (∃ a c, v = .slice a (opL8 xs 8).length c ∧ OwnI h.size h' 3 a (opL8 xs 8).length c (nz (opL8 xs 8))) ∧ Ext h h') := by
  obtain ⟨b0, b1, b2, b3, b4, b5, b6, b7, rfl⟩ : ∃ b0 b1 b2 b3 b4 b5 b6 b7 : Int, xs = [b0, b1, b2, b3, b4, b5, b6, b7] := by
    match xs, hl with
    | [b0, b1, b2, b3, b4, b5, b6, b7], _ => exact ⟨b0, b1, b2, b3, b4, b5, b6, b7, rfl⟩
  obtain ⟨xs, hxs⟩ : ∃ xs, xs = [b0, b1, b2, b3, b4, b5, b6, b7] := ⟨_, rfl⟩
  have h9 : (ints xs).toArray = #[.int .i64 b0, .int .i64 b1, .int .i64 b2, .int .i64 b3, .int .i64 b4, .int .i64 b5, .int .i64 b6, .int .i64 b7] := by rw [hxs]; rfl
  rw [← hxs] at hl ⊢
  rw [h9]
  (refine CallsH_of_exec Tryz.func97 rfl bod97 ?_; simp only [Tryz.ntmps97, Tryz.results97, coreS, stK_some, splice, Value.cells, Value.oneCell', Nat.reduceAdd, Nat.reduceSub, Nat.reduceMul, Nat.reduceLeDiff, Int.reduceEq, Nat.reduceEqDiff, G1Fs97])
  have x0 : Ext h (h.push (.cells #[.int .i64 b0, .int .i64 b1, .int .i64 b2, .int .i64 b3, .int .i64 b4, .int .i64 b5, .int .i64 b6, .int .i64 b7] 104)) := (Ext.refl h).push _
  generalize h.push (.cells #[.int .i64 b0, .int .i64 b1, .int .i64 b2, .int .i64 b3, .int .i64 b4, .int .i64 b5, .int .i64 b6, .int .i64 b7] 104) = hh at x0 ⊢
  refine WP_loopI [3, 4, 5, 7, 8, 9, 10, 11, 12, 13, 14, 15, 16, 17] (fun e h' => Ext hh h' ∧ ∃ i : Nat, i ≤ 8 ∧ e 7 = .int .i64 i ∧ ∃ aO cO, e 3 = .slice aO (opL8 xs i).length cO ∧ OwnI hh.size h' 3 aO (opL8 xs i).length cO (nz (opL8 xs i))) (fun e _ => match e 7 with | .int _ q => 8 - q.toNat | _ => 0) ⟨Ext.refl _, 0, by omega, rfl, none, 0, rfl, OwnI.nil _ _ _⟩ ?_
  rintro e h1 ⟨x1, i, hi, he, aO, cO, heO, OO⟩
  by_cases hi8 : i < 8
  · have hlt : (i : Int) < 8 := by omega
    have meas : 8 - ((i : Int) + 1).toNat < 8 - (i : Int).toNat := by omega
    have ce : (ints xs)[i]? = some (.int .i64 (xs.getD i 0)) := ints_getElem? _ _ (by omega)
    have hx : (Value.agg #[.int .i64 b0, .int .i64 b1, .int .i64 b2, .int .i64 b3, .int .i64 b4, .int .i64 b5, .int .i64 b6, .int .i64 b7]) = .agg (ints xs).toArray := by rw [h9]
    have nx := opL8_next xs i
    have le := opL8_le xs i
    simp only [he, heO, hlt, idsW_arr, decide_true, Int.toNat_natCast, coreS, Value.cells, Value.oneCell', Nat.reduceAdd, Nat.reduceSub, Nat.reduceMul, Nat.reduceLeDiff, Int.reduceEq, Nat.reduceEqDiff, G1Fs97]
    refine index_numT (j := i) Tryz.underlying104 agg2 inf2 sz2 hx rfl (by omega) ce ?_
    by_cases h0 : xs.getD i 0 = 0
    · rw [if_pos h0, List.append_nil] at nx
      simp only [he, heO, h0, decide_true, Bool.not_true, coreS, Value.cells, Value.oneCell', Nat.reduceAdd, Nat.reduceSub, Nat.reduceMul, Nat.reduceLeDiff, Int.reduceEq, Nat.reduceEqDiff, G1Fs97]
      refine ⟨by rw [inK_i64]; omega, roundK_mk (by kernel_rfl) ⟨x1, i + 1, by omega, rfl, aO, cO, by rw [nx]; rfl, by rw [nx]; exact OO⟩ meas⟩
    · rw [if_neg h0] at nx
      simp only [he, heO, h0, decide_false, Bool.not_false, coreS, Value.cells, Value.oneCell', Nat.reduceAdd, Nat.reduceSub, Nat.reduceMul, Nat.reduceLeDiff, Int.reduceEq, Nat.reduceEqDiff, G1Fs97]
      have OO' := OO.ext ((Ext.refl h1).push (.cells #[.int .i64 (i : Int)] 3))
      refine app40 (m0 := hh.size) (len := (opL8 xs i).length) (m := 1) (ys := [(i : Int)]) rfl rfl OO' (by rw [push_size]; have := x1.size; omega) (intsV_one push_new) (by omega) fun a' cap' h5 O5 A5 => ?_
      have ell : (opL8 xs i).length + 1 = (opL8 xs (i + 1)).length := by rw [nx]; simp
      rw [nz_snoc, ← nx, ell] at O5
      simp only [he, coreS, Value.cells, Value.oneCell', Nat.reduceAdd, Nat.reduceSub, Nat.reduceMul, Nat.reduceLeDiff, Int.reduceEq, Nat.reduceEqDiff, G1Fs97]
      refine ⟨by rw [inK_i64]; omega, roundK_mk (by kernel_rfl) ⟨A5.extN OO' (x1.push _) (Nat.le_refl _), i + 1, by omega, rfl, a', cap', by rw [← ell]; rfl, O5⟩ meas⟩
  obtain rfl : i = 8 := by omega
  simp only [he, heO, show ¬ (((8 : Nat) : Int) < 8) by omega, decide_false, coreS, Value.cells, Value.oneCell', Nat.reduceAdd, Nat.reduceSub, Nat.reduceMul, Nat.reduceLeDiff, Int.reduceEq, Nat.reduceEqDiff, G1Fs97]
  exact ⟨⟨aO, cO, rfl, OO.mono x0.size⟩, x0.trans x1⟩
theorem more159 (a b : Option Addr) (n c m d : Nat) (h : Eng.Heap) : CallsH Tryz.prog 159 #[.slice a n c, .slice b m d] h (fun v h' => v = .bool (decide (m < n)) ∧ h' = h) := by
  (refine CallsH_of_exec Tryz.func159 rfl bod159 ?_; simp only [Tryz.ntmps159, Tryz.results159, coreS, stK_some, splice, Value.cells, Value.oneCell', Nat.reduceAdd, Nat.reduceSub, Nat.reduceMul, Nat.reduceLeDiff, Int.reduceEq, Nat.reduceEqDiff, Tryz.underlying163])
  congr 1
  rw [decide_eq_decide]; omega
end Go.Proofs.YtepaekbjoombpaaGreatDoor
end
section
set_option linter.unusedVariables false
set_option linter.unusedSimpArgs false
namespace Go.Eng
open Go
attribute [local semireducible] opSem opQS CallsW setD WP
section fork
variable {P : Program} {l : Option Nat} {R : Heap → Heap → Prop} {G : Nat → Bool}
variable {all : List Oper} {rest rs : List (Nat × Nat)} {k : Cont} {e : Env} {d : List Deferred} {h : Heap} {dst : Option Tmp} {op : Op} {ty : TypeId} {pos : String} {after : Array Edge} {i x y : Nat}
end fork
section vals
variable {P : Program} {h : Heap} {er : Env} {ty : TypeId} {h0 : Nat}
theorem append_zerosT {t tn el : TypeId} {z : Value} {s : Nat} (hu : P.underlying t = some (.slice el)) (hun : P.underlying tn = some (.int .i64)) (hi : (P.info? el).isSome = true) (hsz : szT P el = s) (hz : zeroT P el = some z) (hzs : z.cells.size = s) (hs : 0 < s)
    {x y : Operand} {a : Option Addr} {len cap k : Nat} {olds : List Value} {K : Value → Heap → Prop} (hx : ev er x = .slice a len cap) (hy : ev er y = .int .i64 (k : Nat)) (I : Row h a olds) (hol : olds.length = len * s) (hk : 0 < k) (hg : cap < len + k) (hb : len + k ≤ 1000000) (hby : (len + k) * bytesT P el ≤ 1000000) (h0h : h0 ≤ h.size)
    (H : ∀ cap' h' zs, zs.length = k * s → OwnV h0 h' el s (some ⟨h.size, 0, none⟩) (len + k) cap' (olds ++ zs) → Ext h h' → K (.slice (some ⟨h.size, 0, none⟩) (len + k) cap') h') : opSem P (.call ⟨.builtin .append, #[x, y], #[t, tn]⟩) ty er h K := by
  unfold opSem
  refine And.intro rfl fun w hw => ?_
  subst hw
  obtain ⟨i, hi⟩ := Option.isSome_iff_exists.1 hi
  have hsz : i.size = s := by simpa [szT, hi] using hsz
  have hz : i.zero = some z := by simpa [zeroT, hi] using hz
  have hby : (len + k) * i.bytes ≤ 1000000 := by simpa [bytesT, hi] using hby
  have hkb : k * i.bytes ≤ (len + k) * i.bytes := Nat.mul_le_mul_right _ (by omega)
  have hf : (Builtin.firstCells i.size len (.slice a len cap)).run P w.drew = .ok olds.toArray w.drew := by
    have := firstV (P := P) (w := w.drew) (c := cap) (k := len) (s := s) (b := a) (m := len) (vs := olds) I hol (Nat.le_refl _)
    rw [List.take_of_length_le (by omega)] at this
    rw [hsz]
    exact this
  have g1 := Lib.run_append_grow_zeros (P := P) w t tn ty el i z .i64 .i64 hu hun hi hz a len cap olds hf k hk (by omega) hg (by omega) (by omega) (growslice_fits (bytes := i.bytes) hg (by omega))
  have hge := grownCap_ge w (len + k) cap el
  have hargs : #[x, y].map (ev er) = #[.slice a len cap, .int .i64 (k : Nat)] := by simp [hx, hy]
  have key : ∀ v w', (Builtin.append_ #[t, tn] ty #[.slice a len cap, .int .i64 (k : Nat)]).run P w = .ok v w' → Rest w w' → K v w'.heap →
      semPost P w K ((execOp (ev er) { dst := none, op := .call ⟨.builtin .append, #[x, y], #[t, tn]⟩, type := ty, pos := "", after := #[], guard := none }).run P w) := by
    intro v w' h1 h2 h3
    have : (execOp (ev er) { dst := none, op := .call ⟨.builtin .append, #[x, y], #[t, tn]⟩, type := ty, pos := "", after := #[], guard := none }).run P w = .ok (.value v) w' := by
      simp only [execOp, resolve, invoke, builtin, Sem.run_bind, Sem.run_pure, Result.andThen_ok, hargs, h1]
    rw [this]
    exact ⟨h3, h2⟩
  have hzl : (Builtin.zeroCells z.cells k).size = k * s := by rw [zeroCells_size, hzs]
  refine key _ _ g1 ⟨rfl, rfl, rfl⟩ (H (grownCap w (len + k) cap el) _ (Builtin.zeroCells z.cells k).toList (by simpa using hzl) ⟨by rw [List.length_append, hol, Array.length_toList, hzl, Nat.add_mul], .inr ⟨w.heap.size, _, rfl, h0h, push_new, ?_, hge, ?_⟩⟩ ((Ext.refl _).push _))
  · have e1 : (len + k) * s + (grownCap w (len + k) cap el - (len + k)) * s = grownCap w (len + k) cap el * s := by rw [← Nat.add_mul]; congr 1; omega
    simp only [Array.size_append, List.size_toArray, zeroCells_size, hzs, hol, Nat.add_mul] at e1 ⊢
    omega
  · simp only [Array.toList_append, List.toList_toArray]
    rw [List.take_append_of_le_length (by simp [hol, hzl, Nat.add_mul]), List.take_of_length_le (by simp [hol, hzl, Nat.add_mul])]
end vals
end Go.Eng
end
section
namespace Go.Proofs.YtepaekbjoombpaaGreatDoor
open Go Go.Proofs Go.Eng Go.Run Tab
set_option maxRecDepth 100000
set_option linter.unusedSimpArgs false
set_option linter.unusedVariables false
set_option linter.defProp false
set_option maxHeartbeats 2000000
set_option linter.defProp false
def G2Fs158 := (And.intro (And.intro @agg163 @by163) (And.intro @inf163 (And.intro @sz163 @Tryz.underlying189)))
theorem row_slice {h : Eng.Heap} {a : Option Addr} {n c lo hi : Nat} {vs : List Value} (I : Row h a vs) (hl : vs.length = n) (h1 : lo ≤ hi) (h2 : hi ≤ n) (h3 : n ≤ c) : Row h (if (c : Int) = (lo : Int) then a else eltP a lo) ((vs.drop lo).take (hi - lo)) := by
  split
  · rename_i he
    have : hi - lo = 0 := by omega
    rw [this]
    exact .inl (by simp)
  · exact I.sub lo (hi - lo) (by omega)
abbrev Hd := Option Addr × Nat × Nat
def hdV (t : Hd) : Value := .slice t.1 t.2.1 t.2.2
def hdsV (T : List Hd) : List Value := T.map hdV
theorem hdsV_length (T : List Hd) : (hdsV T).length = T.length := by simp [hdsV]
theorem hdsV_cell {h : Eng.Heap} {a : Option Addr} {T : List Hd} (R : Row h a (hdsV T)) {j : Nat} (hj : j < T.length) : cellH h (eltP a j) = some (.slice T[j].1 T[j].2.1 T[j].2.2) := by
  have := R.cell (j := j) (by rw [hdsV_length]; exact hj)
  rw [this]
  simp [hdsV, hdV]
def upH (o x : Hd) : Hd := if o.2.1 < x.2.1 then x else o
theorem fold_upH : ∀ (l : List Hd) (o : Hd), o.2.1 ≤ (l.foldl upH o).2.1 ∧ (∀ x ∈ l, x.2.1 ≤ (l.foldl upH o).2.1) ∧ (l.foldl upH o = o ∨ l.foldl upH o ∈ l)
  | [], o => ⟨Nat.le_refl _, by simp, .inl rfl⟩
  | y :: l, o => by
    obtain ⟨h1, h2, h3⟩ := fold_upH l (upH o y)
    have ho : o.2.1 ≤ (upH o y).2.1 ∧ y.2.1 ≤ (upH o y).2.1 := by unfold upH; split <;> omega
    have hy : upH o y = o ∨ upH o y = y := by unfold upH; split <;> simp
    simp only [List.foldl_cons, List.mem_cons]
    refine ⟨by omega, fun x hx => ?_, ?_⟩
    · rcases hx with rfl | hx
      · omega
      · exact h2 x hx
    · rcases h3 with h3 | h3
      · rw [h3]; rcases hy with hy | hy
        · exact .inl hy
        · exact .inr (.inl hy)
      · exact .inr (.inr h3)
def bstH (T : List Hd) : Hd := (T.drop 1).foldl upH (T.getD 0 (none, 0, 0))
theorem bstH_ge {T : List Hd} {x : Hd} (hx : x ∈ T) : x.2.1 ≤ (bstH T).2.1 := by
  cases T with
  | nil => cases hx
  | cons y l =>
    obtain ⟨h1, h2, _⟩ := fold_upH l y
    show x.2.1 ≤ (l.foldl upH y).2.1
    rcases List.mem_cons.1 hx with rfl | hx
    · exact h1
    · exact h2 x hx
theorem bstH_mem {T : List Hd} (h : 0 < T.length) : bstH T ∈ T := by
  cases T with
  | nil => simp at h
  | cons y l =>
    obtain ⟨_, _, h3⟩ := fold_upH l y
    show l.foldl upH y ∈ _
    rcases h3 with h3 | h3
    · rw [h3]; simp
    · exact List.mem_cons_of_mem _ h3
theorem best158 (a : Option Addr) (n c : Nat) (T : List Hd) (h : Eng.Heap) (R : Row h a (hdsV T)) (hn : n = T.length) (h1 : 0 < n) (hc : n ≤ c) (hl : n ≤ 1000000) :
    CallsH Tryz.prog 158 #[.slice a n c, .func (.func 159) #[] #[]] h (fun v h' => v = hdV (bstH T) ∧ h' = h) := by
  (refine CallsH_of_exec Tryz.func158 rfl bod158 ?_; simp only [Tryz.ntmps158, Tryz.results158, coreS, stK_some, splice, Value.cells, Value.oneCell', Nat.reduceAdd, Nat.reduceSub, Nat.reduceMul, Nat.reduceLeDiff, Int.reduceEq, Nat.reduceEqDiff, G2Fs158])
  have c0 := hdsV_cell R (j := 0) (by omega)
  have hsm := R.isSome (by rw [hdsV_length]; omega)
  have hsl := row_slice (lo := 1) (hi := n) (c := c) R (by rw [hdsV_length, hn]) (by omega) (Nat.le_refl _) hc
  have e1 : ((n : Int) - 1).toNat = n - 1 := by omega
  have e2 : ((c : Int) - 1).toNat = c - 1 := by omega
  have ht : ((hdsV T).drop 1).take (n - 1) = hdsV (T.drop 1) := by
    rw [List.take_of_length_le (by rw [List.length_drop, hdsV_length]; omega)]
    simp [hdsV]
  rw [ht] at hsl
  obtain ⟨sl, hsle⟩ : ∃ sl, sl = (if (c : Int) = ((1 : Nat) : Int) then a else eltP a 1) := ⟨_, rfl⟩
  have hsle2 : (if (c : Int) = 1 then a else eltP a 1) = sl := by rw [hsle]; rfl
  rw [← hsle] at hsl
  have ht0 : T.getD 0 (none, 0, 0) = T[0] := by rw [List.getD_eq_getElem?_getD, List.getElem?_eq_getElem (by omega)]; rfl
  rw [← ht0] at c0
  simp only [c0, e1, e2, hsle2, coreS, Value.cells, Value.oneCell', Nat.reduceAdd, Nat.reduceSub, Nat.reduceMul, Nat.reduceLeDiff, Int.reduceEq, Nat.reduceEqDiff, G2Fs158]
  refine ⟨⟨by omega, by omega⟩, hsm, by omega, by omega, by omega, by omega, ?_⟩
  refine WP_loopI [5, 7, 14, 15, 16, 17, 18, 19, 20, 21, 22, 23] (fun e h' => h' = h ∧ ∃ i : Nat, i ≤ n - 1 ∧ e 14 = .int .i64 i ∧ ∃ t : Hd, e 5 = .slice t.1 t.2.1 t.2.2 ∧ t = ((T.drop 1).take i).foldl upH (T.getD 0 (none, 0, 0))) (fun e _ => match e 14 with | .int _ q => (n - 1) - q.toNat | _ => 0) ⟨rfl, 0, by omega, rfl, T.getD 0 (none, 0, 0), rfl, rfl⟩ ?_
  rintro e h' ⟨rfl, i, hi, he, t, he5, htT⟩
  have hdl : (T.drop 1).length = n - 1 := by simp; omega
  by_cases hil : i < (T.drop 1).length
  · have hlt : (i : Int) < ((n - 1 : Nat) : Int) := by omega
    have meas : (n - 1) - ((i : Int) + 1).toNat < (n - 1) - (i : Int).toNat := by omega
    have c1 := hdsV_cell hsl hil
    have hss := hsl.isSome (by rw [hdsV_length]; omega)
    obtain ⟨u, hu⟩ : ∃ u, u = (T.drop 1)[i] := ⟨_, rfl⟩
    rw [← hu] at c1
    have hnx : ((T.drop 1).take (i + 1)).foldl upH (T.getD 0 (none, 0, 0)) = upH t u := by
      rw [List.take_add_one, List.getElem?_eq_getElem hil, List.foldl_append, ← htT, ← hu]
      rfl
    simp only [he, he5, hlt, c1, decide_true, Int.toNat_natCast, coreS, Value.cells, Value.oneCell', Nat.reduceAdd, Nat.reduceSub, Nat.reduceMul, Nat.reduceLeDiff, Int.reduceEq, Nat.reduceEqDiff, G2Fs158]
    refine ⟨by omega, hss, ?_⟩
    refine CallsH.mono (more159 _ _ _ _ _ _ h') ?_
    rintro v h2 ⟨rfl, rfl⟩
    by_cases hm : t.2.1 < u.2.1
    · simp only [hm, he, decide_true, coreS, Value.cells, Value.oneCell', Nat.reduceAdd, Nat.reduceSub, Nat.reduceMul, Nat.reduceLeDiff, Int.reduceEq, Nat.reduceEqDiff, G2Fs158]
      exact ⟨by rw [inK_i64]; omega, roundK_mk (by kernel_rfl) ⟨rfl, i + 1, by omega, rfl, u, rfl, by rw [hnx, upH, if_pos hm]⟩ meas⟩
    · simp only [hm, he, decide_false, coreS, Value.cells, Value.oneCell', Nat.reduceAdd, Nat.reduceSub, Nat.reduceMul, Nat.reduceLeDiff, Int.reduceEq, Nat.reduceEqDiff, G2Fs158]
      exact ⟨by rw [inK_i64]; omega, roundK_mk (by kernel_rfl) ⟨rfl, i + 1, by omega, rfl, t, rfl, by rw [hnx, upH, if_neg hm]⟩ meas⟩
  · obtain rfl : i = n - 1 := by omega
    simp only [he, he5, show ¬ (((n - 1 : Nat) : Int) < ((n - 1 : Nat) : Int)) by omega, decide_false, coreS, Value.cells, Value.oneCell', Nat.reduceAdd, Nat.reduceSub, Nat.reduceMul, Nat.reduceLeDiff, Int.reduceEq, Nat.reduceEqDiff, G2Fs158]
    rw [List.take_of_length_le (by omega)] at htT
    rw [htT]
    first | exact ⟨rfl, trivial⟩ | exact ⟨rfl, rfl⟩ | rfl
end Go.Proofs.YtepaekbjoombpaaGreatDoor
end
section
namespace Go.Proofs.YtepaekbjoombpaaGreatDoor
open Go Go.Proofs Go.Eng Go.Run Tab
set_option maxRecDepth 100000
set_option linter.unusedSimpArgs false
set_option linter.unusedVariables false
set_option linter.defProp false
set_option maxHeartbeats 2000000
set_option linter.defProp false
def G3Fs157 := (And.intro (And.intro @agg163 (And.intro @by163 @inf163)) (And.intro @sz163 (And.intro @Tryz.underlying163 @Tryz.underlying189)))
def G3Fs183 := (And.intro (And.intro @by162 @inf162) (And.intro @sz162 @Tryz.underlying163))
theorem bltG_cap {vs : List Value} {u : Option TypeDesc} {h : Eng.Heap} {K : Value → Eng.Heap → Prop} {F : Prop} : bltW .cap vs u h K F = F := by
  unfold bltW
  split <;> first | rfl | (rename_i hh; cases hh) | simp_all
theorem capG {e : Env} {h : Eng.Heap} {ty t el : TypeId} (hu : Tryz.prog.underlying t = some (.slice el)) {x : Operand} {a : Option Addr} {n c : Nat} (hx : ev e x = .slice a n c) {K : Value → Eng.Heap → Prop} (H : K (.int .i64 c) h) : opSem Tryz.prog (.call ⟨.builtin .cap, #[x], #[t]⟩) ty e h K :=
  opSem_pure rfl _ H fun w _ => by simp [execOp, resolve, invoke, builtin, hx, Builtin.cap_, goInt, run_underlying hu]
theorem app163 {h : Eng.Heap} {er : Env} {ty : TypeId} {m0 : Nat} {x y : Operand} {a b : Option Addr} {len cap m c : Nat} {p q : List Nat} {K : Value → Eng.Heap → Prop} (hx : ev er x = .slice a len cap) (hy : ev er y = .slice b m c) (O : OwnV m0 h 162 1 a len cap (ints (nz p))) (h0h : m0 ≤ h.size) (I : Row h b (ints (nz q))) (hm : m = q.length) (hb : len + m ≤ 1000)
    (H : ∀ a' cap' h', OwnV m0 h' 162 1 a' (len + m) cap' (ints (nz (p ++ q))) → App h h' a a' → K (.slice a' (len + m) cap') h') : opSem Tryz.prog (.call ⟨.builtin .append, #[x, y], #[163, 163]⟩) ty er h K :=
  append_valsT Tryz.underlying163 Tryz.underlying163 inf162 sz162 zero162 (by rfl) hx hy O h0h I (by rw [ints_length, nz_length]; omega) (fun u hu => by
    obtain ⟨x, _, rfl⟩ := List.mem_map.1 hu
    rfl) (by omega) (by rw [by162]; omega) fun a' cap' h' O' A' => H a' cap' h' (by
      have e : ints (nz p) ++ ints (nz q) = ints (nz (p ++ q)) := by simp [ints, nz]
      rw [← e]; exact O') A'
theorem grow183 (k : Nat) (hk : 0 < k) (hk2 : k ≤ 1000) (h : Eng.Heap) : CallsH Tryz.prog 183 #[.slice none 0 0, .int .i64 k] h (fun v h' => (∃ a cap, v = .slice a 0 cap ∧ OwnV h.size h' 162 1 a 0 cap (ints (nz []))) ∧ Ext h h') := by
  have h0 : ¬ ((k : Nat) : Int) < 0 := by omega
  have h1 : (0 : Int) < ((k : Nat) : Int) := by omega
  have h2 : (k : Int) - 0 = (k : Nat) := by omega
  (refine CallsH_of_exec Tryz.func183 rfl bod183 ?_; simp only [Tryz.ntmps183, Tryz.results183, coreS, stK_some, splice, Value.cells, Value.oneCell', Nat.reduceAdd, Nat.reduceSub, Nat.reduceMul, Nat.reduceLeDiff, Int.reduceEq, Nat.reduceEqDiff, G3Fs183])
  simp only [h0, h1, h2, decide_true, decide_false, coreS, Value.cells, Value.oneCell', Nat.reduceAdd, Nat.reduceSub, Nat.reduceMul, Nat.reduceLeDiff, Int.reduceEq, Nat.reduceEqDiff, G3Fs183]
  rw [bltG_cap]
  refine capG Tryz.underlying163 rfl ?_
  have h3 : (((0 : Nat) : Int) - ((0 : Nat) : Int)) = 0 := rfl
  have h4 : ((0 : Nat) : Int) = 0 := rfl
  simp only [h3, h2, h1, decide_true, coreS, Value.cells, Value.oneCell', Nat.reduceAdd, Nat.reduceSub, Nat.reduceMul, Nat.reduceLeDiff, Int.reduceEq, Nat.reduceEqDiff, G3Fs183]
  refine ⟨by rw [inK_i64]; omega, by rw [inK_i64]; omega, ?_⟩
  rw [bltG_cap]
  refine capG Tryz.underlying163 rfl ?_
  simp only [h3, h4, h2, h1, decide_true, coreS, Value.cells, Value.oneCell', Nat.reduceAdd, Nat.reduceSub, Nat.reduceMul, Nat.reduceLeDiff, Int.reduceEq, Nat.reduceEqDiff, G3Fs183]
  refine ⟨by omega, by omega, by omega, by omega, ?_⟩
  refine append_zerosT (h0 := h.size) (s := 1) (len := 0) (cap := 0) (k := k) (olds := []) Tryz.underlying163 Tryz.underlying3 inf162 sz162 zero162 rfl (by omega) rfl rfl (.inl rfl) rfl hk (by omega) (by omega) (by rw [by162]; omega) (Nat.le_refl _) fun c2 h2' zs hz O x => ?_
  have hcap := O.cap
  simp only [h3, h4, coreS, Value.cells, Value.oneCell', Nat.reduceAdd, Nat.reduceSub, Nat.reduceMul, Nat.reduceLeDiff, Int.reduceEq, Nat.reduceEqDiff, G3Fs183]
  refine ⟨by omega, by omega, by omega, by omega, ⟨some ⟨h.size, 0, none⟩, c2, by simp, ?_⟩, x⟩
  rcases O.ok with ⟨e, _⟩ | ⟨g, cur, e, o1, o2, o3, o4, o5⟩
  · cases e
  · exact ⟨by simp [nz, ints], .inr ⟨g, cur, e, o1, o2, o3, by omega, by simp [nz, ints]⟩⟩
theorem concat157 (b : Option Addr) (c : Nat) (a1 : Option Addr) (n1 c1 : Nat) (p : List Nat) (a2 : Option Addr) (n2 c2 : Nat) (q : List Nat) (h : Eng.Heap) (R : Row h b (hdsV [(a1, n1, c1), (a2, n2, c2)])) (R1 : Row h a1 (ints (nz p))) (hn1 : n1 = p.length) (R2 : Row h a2 (ints (nz q))) (hn2 : n2 = q.length) (h1 : 0 < n1) (hl : n1 + n2 ≤ 900) :
    CallsH Tryz.prog 157 #[.slice b 2 c] h (fun v h' => (∃ a cap, v = .slice a (n1 + n2) cap ∧ OwnV 0 h' 162 1 a (n1 + n2) cap (ints (nz (p ++ q)))) ∧ Ext h h') := by
  have hc0 := hdsV_cell R (j := 0) (by simp)
  have hc1 := hdsV_cell R (j := 1) (by simp)
  have hsm := R.isSome (by simp [hdsV])
  simp only [List.getElem_cons_zero, List.getElem_cons_succ] at hc0 hc1
  (refine CallsH_of_exec Tryz.func157 rfl bod157 ?_; simp only [Tryz.ntmps157, Tryz.results157, coreS, stK_some, splice, Value.cells, Value.oneCell', Nat.reduceAdd, Nat.reduceSub, Nat.reduceMul, Nat.reduceLeDiff, Int.reduceEq, Nat.reduceEqDiff, G3Fs157])
  refine WP_loopI [3, 5, 11, 12, 13, 14, 15, 16, 17, 18, 19, 20, 21, 22] (fun e h' => h' = h ∧ ((e 11 = .int .i64 0 ∧ e 3 = .int .i64 0) ∨ (e 11 = .int .i64 1 ∧ e 3 = .int .i64 n1) ∨ (e 11 = .int .i64 2 ∧ e 3 = .int .i64 ((n1 + n2 : Nat) : Int)))) (fun e _ => match e 11 with | .int _ q => 2 - q.toNat | _ => 0) ⟨rfl, .inl ⟨rfl, rfl⟩⟩ ?_
  rintro e h' ⟨rfl, ⟨he, he3⟩ | ⟨he, he3⟩ | ⟨he, he3⟩⟩
  · have t0 : (0 : Int) < ((2 : Nat) : Int) := by decide
    have t1 : ¬ (0 : Int) + (n1 : Nat) < 0 := by omega
    have t2 : ((0 : Int)).toNat = 0 := rfl
    simp only [he, he3, t0, t1, t2, hc0, decide_true, decide_false, coreS, Value.cells, Value.oneCell', Nat.reduceAdd, Nat.reduceSub, Nat.reduceMul, Nat.reduceLeDiff, Int.reduceEq, Nat.reduceEqDiff, G3Fs157]
    refine ⟨by omega, hsm, by rw [inK_i64]; omega, by rw [inK_i64]; omega, roundK_mk (by kernel_rfl) ⟨rfl, .inr (.inl ⟨rfl, ?_⟩)⟩ ?_⟩
    · show Value.int .i64 (0 + (n1 : Int)) = _
      rw [Int.zero_add]
    · show 2 - (0 + 1 : Int).toNat < 2 - (0 : Int).toNat
      decide
  · have t0 : (1 : Int) < ((2 : Nat) : Int) := by decide
    have t1 : ¬ ((n1 : Nat) : Int) + (n2 : Nat) < 0 := by omega
    have t2 : ((1 : Int)).toNat = 1 := rfl
    simp only [he, he3, t0, t1, t2, hc1, decide_true, decide_false, coreS, Value.cells, Value.oneCell', Nat.reduceAdd, Nat.reduceSub, Nat.reduceMul, Nat.reduceLeDiff, Int.reduceEq, Nat.reduceEqDiff, G3Fs157]
    refine ⟨by omega, hsm, by rw [inK_i64]; omega, by rw [inK_i64]; omega, roundK_mk (by kernel_rfl) ⟨rfl, .inr (.inr ⟨rfl, ?_⟩)⟩ ?_⟩
    · show Value.int .i64 ((n1 : Int) + (n2 : Int)) = _
      congr 1
    · show 2 - (1 + 1 : Int).toNat < 2 - (1 : Int).toNat
      decide
  have t0 : ¬ (2 : Int) < ((2 : Nat) : Int) := by decide
  simp only [he, he3, t0, decide_false, coreS, Value.cells, Value.oneCell', Nat.reduceAdd, Nat.reduceSub, Nat.reduceMul, Nat.reduceLeDiff, Int.reduceEq, Nat.reduceEqDiff, G3Fs157]
  refine CallsH.mono (grow183 (n1 + n2) (by omega) (by omega) h') ?_
  rintro v h1' ⟨⟨a3, c3, rfl, O3⟩, x3⟩
  have s3 := x3.size
  simp only [coreS, Value.cells, Value.oneCell', Nat.reduceAdd, Nat.reduceSub, Nat.reduceMul, Nat.reduceLeDiff, Int.reduceEq, Nat.reduceEqDiff, G3Fs157]
  refine WP_loopI [6, 8, 27, 28, 29, 30, 31, 32, 33, 34] (fun e h'' => Ext h' h'' ∧ ((e 27 = .int .i64 0 ∧ ∃ a4 c4, e 6 = .slice a4 0 c4 ∧ OwnV h'.size h'' 162 1 a4 0 c4 (ints (nz []))) ∨ (e 27 = .int .i64 1 ∧ ∃ a4 c4, e 6 = .slice a4 n1 c4 ∧ OwnV h'.size h'' 162 1 a4 n1 c4 (ints (nz p))) ∨ (e 27 = .int .i64 2 ∧ ∃ a4 c4, e 6 = .slice a4 (n1 + n2) c4 ∧ OwnV h'.size h'' 162 1 a4 (n1 + n2) c4 (ints (nz (p ++ q)))))) (fun e _ => match e 27 with | .int _ q => 2 - q.toNat | _ => 0) ⟨x3, .inl ⟨rfl, a3, c3, rfl, O3⟩⟩ ?_
  rintro e4 h4 ⟨x4, ⟨he4, a4, c4, he6, O4⟩ | ⟨he4, a4, c4, he6, O4⟩ | ⟨he4, a4, c4, he6, O4⟩⟩
  · have u0 : (0 : Int) < ((2 : Nat) : Int) := by decide
    have u2 : ((0 : Int)).toNat = 0 := rfl
    have d0 := hdsV_cell (R.ext x4) (j := 0) (by simp)
    simp only [List.getElem_cons_zero] at d0
    simp only [he4, he6, u0, u2, d0, decide_true, coreS, Value.cells, Value.oneCell', Nat.reduceAdd, Nat.reduceSub, Nat.reduceMul, Nat.reduceLeDiff, Int.reduceEq, Nat.reduceEqDiff, G3Fs157]
    refine ⟨by omega, hsm, ?_⟩
    refine app163 (m0 := h'.size) (len := 0) (p := []) rfl rfl O4 x4.size (R1.ext x4) hn1 (by omega) fun a5 c5 h5 O5 A5 => ?_
    rw [Nat.zero_add, List.nil_append] at O5
    rw [Nat.zero_add]
    simp only [he4, coreS, Value.cells, Value.oneCell', Nat.reduceAdd, Nat.reduceSub, Nat.reduceMul, Nat.reduceLeDiff, Int.reduceEq, Nat.reduceEqDiff, G3Fs157]
    refine ⟨by rw [inK_i64]; omega, roundK_mk (by kernel_rfl) ⟨A5.extV O4 x4 (Nat.le_refl _), .inr (.inl ⟨rfl, a5, c5, rfl, O5⟩)⟩ ?_⟩
    show 2 - (0 + 1 : Int).toNat < 2 - (0 : Int).toNat
    decide
  · have u0 : (1 : Int) < ((2 : Nat) : Int) := by decide
    have u2 : ((1 : Int)).toNat = 1 := rfl
    have d1 := hdsV_cell (R.ext x4) (j := 1) (by simp)
    simp only [List.getElem_cons_zero, List.getElem_cons_succ] at d1
    simp only [he4, he6, u0, u2, d1, decide_true, coreS, Value.cells, Value.oneCell', Nat.reduceAdd, Nat.reduceSub, Nat.reduceMul, Nat.reduceLeDiff, Int.reduceEq, Nat.reduceEqDiff, G3Fs157]
    refine ⟨by omega, hsm, ?_⟩
    refine app163 (m0 := h'.size) (len := n1) (p := p) rfl rfl O4 x4.size (R2.ext x4) hn2 (by omega) fun a5 c5 h5 O5 A5 => ?_
    simp only [he4, coreS, Value.cells, Value.oneCell', Nat.reduceAdd, Nat.reduceSub, Nat.reduceMul, Nat.reduceLeDiff, Int.reduceEq, Nat.reduceEqDiff, G3Fs157]
    refine ⟨by rw [inK_i64]; omega, roundK_mk (by kernel_rfl) ⟨A5.extV O4 x4 (Nat.le_refl _), .inr (.inr ⟨rfl, a5, c5, rfl, O5⟩)⟩ ?_⟩
    show 2 - (1 + 1 : Int).toNat < 2 - (1 : Int).toNat
    decide
  · have u0 : ¬ (2 : Int) < ((2 : Nat) : Int) := by decide
    simp only [he4, he6, u0, decide_false, coreS, Value.cells, Value.oneCell', Nat.reduceAdd, Nat.reduceSub, Nat.reduceMul, Nat.reduceLeDiff, Int.reduceEq, Nat.reduceEqDiff, G3Fs157]
    exact ⟨⟨a4, c4, rfl, O4.mono (Nat.zero_le _)⟩, x4⟩
end Go.Proofs.YtepaekbjoombpaaGreatDoor
end
section
set_option linter.unusedVariables false
set_option linter.unusedSimpArgs false
namespace Go.Eng
open Go
structure Chg (h h' : Heap) (b : Nat) : Prop where
  size : h.size ≤ h'.size
  old : ∀ c, c < h.size → c ≠ b → h'[c]? = h[c]?
theorem Chg.refl (h : Heap) (b : Nat) : Chg h h b := ⟨Nat.le_refl _, fun _ _ _ => rfl⟩
theorem Chg.of_ext {h h' : Heap} (x : Ext h h') (b : Nat) : Chg h h' b := ⟨x.size, fun c hc _ => x.old c hc⟩
theorem Chg.trans {h h' h'' : Heap} {b : Nat} (x : Chg h h' b) (y : Chg h' h'' b) : Chg h h'' b := ⟨Nat.le_trans x.size y.size, fun c hc hne => (y.old c (Nat.lt_of_lt_of_le hc x.size) hne).trans (x.old c hc hne)⟩
theorem Chg.get {h h' : Heap} {b c : Nat} {o : Obj} (x : Chg h h' b) (hc : h[c]? = some o) (hne : c ≠ b) : h'[c]? = some o := (x.old c (lt_of_get hc) hne).trans hc
theorem Chg.upd {h h' h'' : Heap} {b : Nat} (x : Chg h h' b) (u : Upd h' h'' b) : Chg h h'' b := ⟨by rw [u.size]; exact x.size, fun c hc hne => (u.old c hne).trans (x.old c hc hne)⟩
theorem Chg.upd_new {h h' h'' : Heap} {b c : Nat} (x : Chg h h' b) (u : Upd h' h'' c) (hc : h.size ≤ c) : Chg h h'' b := ⟨by rw [u.size]; exact x.size, fun i hi hne => (u.old i (by omega)).trans (x.old i hi hne)⟩
theorem Chg.ext {h h' h'' : Heap} {b : Nat} (x : Chg h h' b) (y : Ext h' h'') : Chg h h'' b := x.trans (.of_ext y b)
theorem Chg.push {h h' : Heap} {b : Nat} (x : Chg h h' b) (o : Obj) : Chg h (h'.push o) b := x.ext ((Ext.refl h').push o)
theorem Chg.fresh {h0 h h' : Heap} {b : Nat} (x : Ext h0 h) (c : Chg h h' b) (hb : h0.size ≤ b) : Ext h0 h' := ⟨Nat.le_trans x.size c.size, fun i hi => (c.old i (Nat.lt_of_lt_of_le hi x.size) (by omega)).trans (x.old i hi)⟩
theorem Row.chg {h h' : Heap} {b : Nat} {a : Option Addr} {cs : List Value} {ents : Array MapEntry} {c : Nat} (H : Row h a cs) (hb : h[b]? = some (.map ents c)) (x : Chg h h' b) : Row h' a cs := by
  rcases H with H | ⟨g, off, cur, ct, fr, h1, h2, h3, h4⟩
  · exact .inl H
  · refine .inr ⟨g, off, cur, ct, fr, h1, x.get h2 ?_, h3, h4⟩
    rintro rfl
    rw [hb] at h2
    cases h2
theorem IntsV.chg {h h' : Heap} {b n : Nat} {a : Option Addr} {xs : List Int} {ents : Array MapEntry} {c : Nat} (H : IntsV h a n xs) (hb : h[b]? = some (.map ents c)) (x : Chg h h' b) : IntsV h' a n xs := ⟨H.len, H.row.chg hb x⟩
section maps
variable {α : Type} [DecidableEq α]
theorem getA_put {a a' : α} {v : Value} {c : Nat} : ∀ {es : List (α × Value × Nat)}, getA a' (putA a v c es) = if a' = a then some v else getA a' es
  | [] => by simp only [putA, getA]
  | x :: es => by
    have ih := getA_put (a := a) (a' := a') (v := v) (c := c) (es := es)
    by_cases hx : a = x.1
    · simp only [putA, hx, if_true, getA]
      by_cases h : a' = x.1 <;> simp [h]
    · simp only [putA, hx, if_false, getA, ih]
      by_cases h : a' = x.1
      · have : ¬ a' = a := fun e => hx (by rw [← e, h])
        simp [h, this]
        intro e; exact absurd e.symm hx
      · simp [h]
theorem put_keys {a : α} {v : Value} {c : Nat} : ∀ {es : List (α × Value × Nat)}, (putA a v c es).map (·.1) = if a ∈ es.map (·.1) then es.map (·.1) else es.map (·.1) ++ [a]
  | [] => by simp [putA]
  | x :: es => by
    have ih := put_keys (a := a) (v := v) (c := c) (es := es)
    by_cases hx : a = x.1
    · simp [putA, hx]
    · simp only [putA, hx, if_false, List.map_cons, ih, List.mem_cons, false_or]
      split <;> simp
theorem put_nodup {a : α} {v : Value} {c : Nat} {es : List (α × Value × Nat)} (h : (es.map (·.1)).Nodup) : ((putA a v c es).map (·.1)).Nodup := by
  rw [put_keys]
  split
  · exact h
  · rename_i hn
    rw [List.nodup_append]
    refine ⟨h, by simp, ?_⟩
    intro x hx y hy
    simp at hy
    subst hy
    exact fun e => hn (by rw [← e]; exact hx)
theorem getA_mem {a : α} : ∀ {es : List (α × Value × Nat)}, (es.map (·.1)).Nodup → ∀ {x}, x ∈ es → x.1 = a → getA a es = some x.2.1
  | [], _, x, h, _ => by cases h
  | y :: es, hn, x, h, he => by
    rw [List.map_cons, List.nodup_cons] at hn
    rcases List.mem_cons.1 h with rfl | h
    · simp [getA, he]
    · have : ¬ a = y.1 := fun e => hn.1 (by rw [← e, ← he]; exact List.mem_map.2 ⟨x, h, rfl⟩)
      simp only [getA, this, if_false]
      exact getA_mem hn.2 h he
theorem mem_getA {a : α} {v : Value} : ∀ {es : List (α × Value × Nat)}, getA a es = some v → ∃ c, (a, v, c) ∈ es
  | [], h => by cases h
  | x :: es, h => by
    simp only [getA] at h
    split at h
    · rename_i hx
      cases h
      exact ⟨x.2.2, by rw [hx]; simp⟩
    · obtain ⟨c, hc⟩ := mem_getA h
      exact ⟨c, by simp [hc]⟩
end maps
def leftN (r b : Nat) (h : Heap) : Nat := match h[r]?, h[b]? with
  | some (.mapIter _ _ seen _), some (.map es _) => (es.toList.filter fun e => !seen.contains e.born).length
  | _, _ => 0
theorem leftN_eq {α : Type} {kv : α → Value} {r b since c0 c : Nat} {seen : Array Nat} {h : Heap} {es : List (α × Value × Nat)} (M : MapV kv h b es c) (hr : h[r]? = some (.mapIter (some b) since seen c0)) : leftN r b h = (es.filter fun x => !seen.contains x.2.2).length := by
  rw [leftN, hr, M.obj]
  simp only [List.toList_toArray, List.filter_map, List.length_map]
  rfl
theorem filter_lt {α : Type} {p q : α → Bool} : ∀ {l : List α}, (∀ x ∈ l, q x = true → p x = true) → ∀ {e : α}, e ∈ l → p e = true → q e = false → (l.filter q).length < (l.filter p).length
  | [], _, e, h, _, _ => by cases h
  | y :: l, hs, e, h, hp, hq => by
    have hle : (l.filter q).length ≤ (l.filter p).length := by
      have : l.filter q = (l.filter p).filter q := by
        rw [List.filter_filter]
        apply List.filter_congr
        intro x hx
        by_cases hqx : q x = true
        · simp [hqx, hs x (by simp [hx]) hqx]
        · simp [hqx]
      rw [this]
      exact List.length_filter_le _ _
    rcases List.mem_cons.1 h with rfl | h
    · simp only [List.filter_cons, hp, hq, if_true, List.length_cons]
      simp
      omega
    · have ih := filter_lt (p := p) (q := q) (fun x hx => hs x (by simp [hx])) h hp hq
      simp only [List.filter_cons]
      by_cases hqy : q y = true
      · simp [hqy, hs y (by simp) hqy, ih]
      · by_cases hpy : p y = true
        · simp [hqy, hpy]; omega
        · simp [hqy, hpy, ih]
theorem born_eq {α : Type} {es : List (α × Value × Nat)} (hb : (es.map (·.2.2)).Pairwise (· < ·)) {x y : α × Value × Nat} (hx : x ∈ es) (hy : y ∈ es) (he : x.2.2 = y.2.2) : x = y := by
  induction es with
  | nil => cases hx
  | cons z es ih =>
    rw [List.map_cons, List.pairwise_cons] at hb
    rcases List.mem_cons.1 hx with h1 | h1
    · rcases List.mem_cons.1 hy with h2 | h2
      · rw [h1, h2]
      · have := hb.1 _ (List.mem_map.2 ⟨y, h2, rfl⟩)
        rw [← h1] at this
        omega
    · rcases List.mem_cons.1 hy with h2 | h2
      · have := hb.1 _ (List.mem_map.2 ⟨x, h1, rfl⟩)
        rw [← h2] at this
        omega
      · exact ih hb.2 h1 h2
end Go.Eng
end
section
set_option linter.unusedVariables false
set_option linter.unusedSimpArgs false
namespace Go.Eng
open Go
section yields
variable {P : Program} {l : Option Nat} {h : Heap} {e : Env} {d : List Deferred} {k : Cont}
def CallY (P : Program) (v : Value) (vs : List Value) (h : Heap) (K : Value → Heap → Prop) : Prop :=
  ∀ (er : Env) (f : Operand) (xs : Array Operand) (ats : Array TypeId) (ty : TypeId), ev er f = v → (xs.map (ev er)).toList = vs → opSem P (.call ⟨.value f, xs, ats⟩) ty er h K
theorem CallY.run {v : Value} {vs : List Value} {K K' : Value → Heap → Prop} (H : CallY P v vs h K) {er : Env} {f : Operand} {xs : Array Operand} {ats : Array TypeId} {ty : TypeId} (hf : ev er f = v) (hx : (xs.map (ev er)).toList = vs)
    (hk : ∀ v h, K v h → K' v h) : opSem P (.call ⟨.value f, xs, ats⟩) ty er h K' := opSem_mono hk (H er f xs ats ty hf hx)
theorem callV_yield {lo : Nat} {first caps args : Array Value} {K : Value → Heap → Prop} {F : Prop} : callV P (.func (.yield lo) first caps) args h K F = F := by unfold callV; rfl
def binds : List Tmp → List Value → Env → Env
  | p :: ps, v :: vs, e => binds ps vs (e.set p v)
  | _, _, e => e
theorem binds_cons {p : Tmp} {ps : List Tmp} {v : Value} {vs : List Value} {e : Env} : binds (p :: ps) (v :: vs) e = binds ps vs (e.set p v) := eqi rfl
theorem binds_nil {vs : List Value} {e : Env} : binds [] vs e = e := by simp [binds]
def mkD (r : Nat) : Deferred := { target := .collected r, args := #[] }
theorem ystepR_scope {b : Frame} {a : Act} {k : List Item} {cs : List Frame} {w : World} {c : Code} : Go.step P (lone (b.atR a (.code (.scope c) :: k)) cs w) = .next (lone (b.atR a (.code c :: .inScope c :: k)) cs w) :=
  step_lone_go (by simp [stepG, stepG.exec, Frame.atR])
theorem ystepR_inScope {b : Frame} {a : Act} {k : List Item} {cs : List Frame} {w : World} {c : Code} : Go.step P (lone (b.atR a (.inScope c :: k)) cs w) = .next (lone (b.atR a k) cs w) :=
  step_lone_go (by simp [stepG, stepG.exec, Frame.atR])
theorem ywpIn_scope {F : Fence} {n : Nat} {Q : Exit → Act → World → Prop} {a : Act} {w : World} {c : Code} (hc : c.wpIn F n P (fun x a w => (∀ i, x ≠ .goto i) ∧ Q x a w) a w) : (Code.scope c).wpIn F n P Q a w := by
  intro b k cs hro hb hr
  have h0 : (lone (b.atR a (.code (.scope c) :: k)) cs w).fenced P F := fenced_calm hb hr rfl
  obtain ⟨e, a₁, w₁, hq, harr⟩ := hc b (.inScope c :: k) cs hro hb hr
  cases e with
  | normal => exact ⟨.normal, a₁, w₁, hq.2, .head h0 ystepR_scope (StepsIn.trans harr (.one (fenced_calm hb hr rfl) ystepR_inScope))⟩
  | exit id =>
    have hx : exitTo id (.inScope c :: k) = exitTo id k := by simp [exitTo]
    exact ⟨.exit id, a₁, w₁, hq.2, fun k' hk => .head h0 ystepR_scope (harr.1 k' (by rw [hx]; exact hk)),
      fun hr' hk => let ⟨k₁, h1, h2⟩ := harr.2 hr' (by rw [hx]; exact hk); ⟨k₁, h1, .head h0 ystepR_scope h2⟩⟩
  | goto l => exact absurd rfl (hq.1 l)
  | ret => exact ⟨_, a₁, w₁, hq.2, .of_steps (.one h0 ystepR_scope) harr⟩
  | panic ch => exact ⟨_, a₁, w₁, hq.2, .of_steps (.one h0 ystepR_scope) harr⟩
  | outgrown => exact ⟨_, a₁, w₁, hq.2, .of_steps (.one h0 ystepR_scope) harr⟩
theorem Loop.back {R : Loop} (h1 : R.state = .ready) (h2 : R.pending = none) : ({ ({ R with state := .busy } : Loop) with state := .ready, pending := none } : Loop) = R := by
  cases R; simp_all
def scopeK (k : Cont) : Cont := fun x e d h => (∀ i, x ≠ .goto i) ∧ k x e d h
theorem WP_scope {c : Code} (H : exec l P c (scopeK k) e d h) : WP l P (.scope c) k e d h := by
  have hb := exec_sound _ _ _ _ _ H
  unfold WP at *
  intro w hw
  refine ywpIn_scope (wpIn_mono (hb w hw) ?_)
  rintro x a' w' ⟨⟨c1, c2⟩, hr⟩
  exact ⟨c1, c2, hr⟩
theorem exec_scope {c : Code} (H : exec l P c (scopeK k) e d h) : exec l P (.scope c) k e d h := by
  unfold exec
  exact WP_scope H
theorem scopeK_normal : scopeK k .normal e d h = k .normal e d h := eqi (propext ⟨fun H => H.2, fun H => ⟨fun _ hi => (by cases hi), H⟩⟩)
theorem scopeK_ret : scopeK k .ret e d h = k .ret e d h := eqi (propext ⟨fun H => H.2, fun H => ⟨fun _ hi => (by cases hi), H⟩⟩)
theorem scopeK_exit {i : Nat} : scopeK k (.exit i) e d h = k (.exit i) e d h := eqi (propext ⟨fun H => H.2, fun H => ⟨fun _ hi => (by cases hi), H⟩⟩)
theorem Upd.set {b : Nat} {o : Obj} : Upd h (h.setIfInBounds b o) b := ⟨by simp, fun b' hb => Array.getElem?_setIfInBounds_ne (Ne.symm hb)⟩
end yields
end Go.Eng
end
