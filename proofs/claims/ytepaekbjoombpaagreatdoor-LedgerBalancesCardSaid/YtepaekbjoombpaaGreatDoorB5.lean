/- Walks: Moves, of the reference. -/
import Derived.Test.YtepaekbjoombpaaGreatDoorB4
namespace Go.Proofs.YtepaekbjoombpaaGreatDoor
open Go Go.Proofs Go.Eng Tab
set_option maxRecDepth 100000
set_option linter.unusedSimpArgs false
set_option linter.unusedVariables false
set_option maxHeartbeats 2000000
theorem moves31 (acc cl : Int) (a : Option Addr) (n c : Nat) (es : List En) (who lo hi : Int) (h : Eng.Heap) (hr : Row h a (ensV es)) (hn : n = es.length) (hl : n ≤ 1000000) :
    CallsH Tryz.prog 31 #[.agg #[.int .i64 acc, .int .i64 cl, .slice a n c], .int .i64 who, .int .i64 lo, .int .i64 hi] h (fun v h' => (∃ b m k, v = .tuple #[.slice b m k, .int .i64 (movE acc cl who lo hi es)] ∧ IntsV h' b m (movR acc cl who lo hi es) ∧ m ≤ 20) ∧ Ext h h') := by
  refine CallsH_of_exec Tryz.func31 rfl bod31 ?_
  simp only [Tryz.ntmps31, Tryz.results31, coreS, stK_some, splice, Value.cells, Value.oneCell', Nat.reduceAdd, Nat.reduceSub, Nat.reduceMul, Nat.reduceLeDiff, Int.reduceEq, Nat.reduceEqDiff, agg22, agg24, agg26, agg3, by26, by3, fo24_0, fo24_2, fo26_0, fo26_1, fo26_2, inf22, inf24, inf26, inf3, sz22, sz24, sz26, sz3, zero26, zero3, Tryz.underlying22, Tryz.underlying40]
  refine CallsH.mono (check26 acc cl a n c es _ (hr.push _) hn hl) ?_
  rintro v h1 ⟨rfl, x1⟩
  have hb := x1.get (push_new (h := h))
  have y1 := x1.of_push
  by_cases e0 : chk acc cl es = 0
  · obtain ⟨ha, hl2, hcl, hok, hso, hft⟩ := chk_ok e0
    simp only [e0, hb, decide_true, Bool.not_true, coreS, Value.cells, Value.oneCell', Nat.reduceAdd, Nat.reduceSub, Nat.reduceMul, Nat.reduceLeDiff, Int.reduceEq, Nat.reduceEqDiff, agg22, agg24, agg26, agg3, by26, by3, fo24_0, fo24_2, fo26_0, fo26_1, fo26_2, inf22, inf24, inf26, inf3, sz22, sz24, sz26, sz3, zero26, zero3, Tryz.underlying22, Tryz.underlying40]
    have bad : movE acc cl who lo hi es = 2 → (∃ b m k, Value.tuple #[.slice none 0 0, .int .i64 2] = .tuple #[.slice b m k, .int .i64 (movE acc cl who lo hi es)] ∧ IntsV h1 b m (movR acc cl who lo hi es) ∧ m ≤ 20) ∧ Ext h h1 := fun hE => ⟨⟨_, _, _, by rw [hE], by rw [movR, if_neg (by omega)]; exact IntsV.nil _, by omega⟩, y1⟩
    have bad2 : movE acc cl who lo hi es = 3 → (∃ b m k, Value.tuple #[.slice none 0 0, .int .i64 3] = .tuple #[.slice b m k, .int .i64 (movE acc cl who lo hi es)] ∧ IntsV h1 b m (movR acc cl who lo hi es) ∧ m ≤ 20) ∧ Ext h h1 := fun hE => ⟨⟨_, _, _, by rw [hE], by rw [movR, if_neg (by omega)]; exact IntsV.nil _, by omega⟩, y1⟩
    have b2 : ¬ (0 ≤ who ∧ who < acc) → movE acc cl who lo hi es = 2 := fun hh => by unfold movE; rw [if_neg (by simpa using e0), if_pos hh]
    have b3 : (0 ≤ who ∧ who < acc) → ¬ ((0 ≤ lo ∧ lo ≤ 30) ∧ 0 ≤ hi ∧ hi ≤ 30) → movE acc cl who lo hi es = 3 := fun h0 hh => by unfold movE; rw [if_neg (by simpa using e0), if_neg (by simpa using h0), if_pos hh]
    refine ⟨fun q1 => bad (b2 (by omega)), fun q1 => ⟨fun q2 => bad (b2 (by omega)), fun q2 => ⟨fun q3 => bad2 (b3 (by omega) (by omega)), fun q3 => ⟨fun q4 => bad2 (b3 (by omega) (by omega)), fun q4 => ⟨fun q5 => bad2 (b3 (by omega) (by omega)), fun q5 => ⟨fun q6 => bad2 (b3 (by omega) (by omega)), fun q6 => ?_⟩⟩⟩⟩⟩⟩
    have hE : movE acc cl who lo hi es = 0 := by unfold movE; rw [if_neg (by simpa using e0), if_neg (by omega), if_neg (by omega)]
    clear bad bad2 b2 b3
    have hsz := lt_of_get hb
    refine WP_loopI [10, 11, 12, 40, 41, 42, 43, 44, 45, 46, 47, 48, 49, 50, 51, 52, 53, 54, 55, 56, 57, 58, 59, 60, 61, 62, 63, 64, 65, 66, 67, 68, 69, 70, 71, 72, 73, 74, 75, 76, 77] (fun g h' => ∃ i : Nat, i ≤ n ∧ g 11 = .int .i64 i ∧ h'[h.size]? = some (.cells #[.int .i64 acc, .int .i64 cl, .slice a n c] 24) ∧ Ext h h' ∧ h.size + 1 ≤ h'.size ∧ ∃ a' len cap, g 10 = .slice a' len cap ∧ len ≤ i ∧ OwnI (h.size + 1) h' 3 a' len cap (zsN ((movI who es i).filter (dayB es lo hi)))) (fun g _ => match g 11 with | .int _ m => n - m.toNat | _ => 0) ⟨0, by omega, rfl, hb, y1, by omega, none, 0, 0, rfl, by omega, OwnI.nil _ _ _⟩ ?_
    rintro g h2 ⟨i, hin, hg, hb2, hx, hs2, a', len, cap, hg2, hlen, O⟩
    by_cases hi2 : i < es.length
    · have hsm : a.isSome = true := hr.isSome (by rw [ensV_length]; omega)
      have hc1 := rowE (hr.ext hx) hi2
      simp only [hg, hg2, hb2, hc1, Int.toNat_natCast, coreS, Value.cells, Value.oneCell', Nat.reduceAdd, Nat.reduceSub, Nat.reduceMul, Nat.reduceLeDiff, Int.reduceEq, Nat.reduceEqDiff, agg22, agg24, agg26, agg3, by26, by3, fo24_0, fo24_2, fo26_0, fo26_1, fo26_2, inf22, inf24, inf26, inf3, sz22, sz24, sz26, sz3, zero26, zero3, Tryz.underlying22, Tryz.underlying40]
      refine ⟨fun _ => ?_, fun hge => absurd hge (by omega)⟩
      refine ⟨by omega, hsm, ?_⟩
      simp only [coreS, stK_some, splice, Value.cells, Value.oneCell', Nat.reduceAdd, Nat.reduceSub, Nat.reduceMul, Nat.reduceLeDiff, Int.reduceEq, Nat.reduceEqDiff, agg22, agg24, agg26, agg3, by26, by3, fo24_0, fo24_2, fo26_0, fo26_1, fo26_2, inf22, inf24, inf26, inf3, sz22, sz24, sz26, sz3, zero26, zero3, Tryz.underlying22, Tryz.underlying40]
      have hge : es[i]? = some es[i] := List.getElem?_eq_getElem hi2
      have yes : touch who es i = true → dayB es lo hi i = true → zsN ((movI who es (i + 1)).filter (dayB es lo hi)) = zsN ((movI who es i).filter (dayB es lo hi)) ++ [(i : Int)] := fun t1 t2 => by
        rw [movI_yes t1, List.filter_append, List.filter_cons_of_pos t2]; simp [zsN]
      have no1 : touch who es i = false → zsN ((movI who es (i + 1)).filter (dayB es lo hi)) = zsN ((movI who es i).filter (dayB es lo hi)) := fun t1 => by rw [movI_no t1]
      have no2 : dayB es lo hi i = false → zsN ((movI who es (i + 1)).filter (dayB es lo hi)) = zsN ((movI who es i).filter (dayB es lo hi)) := fun t2 => by
        cases t1 : touch who es i with
        | false => rw [movI_no t1]
        | true => rw [movI_yes t1, List.filter_append, List.filter_cons_of_neg (by simp [t2])]; simp
      have td : dayB es lo hi i = (decide (lo ≤ es[i].d) && decide (es[i].d ≤ hi)) := by simp [dayB, hge]
      have tt : touch who es i = (decide (es[i].f = who) || decide (es[i].t = who)) := by simp [touch, hge]
      refine ⟨fun p1 => ⟨fun p3 => ⟨fun p4 => ?y1, fun p4 => ?n1⟩, fun p3 => ?n2⟩, fun p1 => ⟨fun p2 => ⟨fun p3 => ⟨fun p4 => ?y2, fun p4 => ?n3⟩, fun p3 => ?n4⟩, fun p2 => ?n5⟩⟩
      case y1 | y2 =>
        have t1 : touch who es i = true := by rw [tt]; simp; omega
        have t2 : dayB es lo hi i = true := by rw [td]; simp; omega
        have O7 := (O.ext ((Ext.refl h2).push (.cells #[.int .i64 es[i].d, .int .i64 es[i].f, .int .i64 es[i].t, .int .i64 es[i].a] 26))).ext ((Ext.refl _).push (.cells #[.int .i64 (i : Nat)] 3))
        refine app40 rfl rfl O7 (by simp; omega) (intsV_one pn1) (by omega) fun a8 c8 h8 O8 A => ?_
        have w2 := A.upd O7 (push_old (push_old hb2)) (by omega)
        have wx := A.extN O7 ((hx.push _).push _) (by omega)
        simp only [coreS, Value.cells, Value.oneCell', Nat.reduceAdd, Nat.reduceSub, Nat.reduceMul, Nat.reduceLeDiff, Int.reduceEq, Nat.reduceEqDiff, agg22, agg24, agg26, agg3, by26, by3, fo24_0, fo24_2, fo26_0, fo26_1, fo26_2, inf22, inf24, inf26, inf3, sz22, sz24, sz26, sz3, zero26, zero3, Tryz.underlying22, Tryz.underlying40]
        refine ⟨by rw [inK_i64]; omega, roundK_mk (by kernel_rfl) ⟨i + 1, by omega, rfl, w2, wx, Nat.le_trans (by simp; omega) A.size, a8, len + 1, c8, rfl, by omega, by rw [yes t1 t2]; exact O8⟩ ?_⟩
        show n - ((i : Int) + 1).toNat < n - (i : Int).toNat
        omega
      case n5 =>
        have t1 : touch who es i = false := by rw [tt]; simp; omega
        refine ⟨by rw [inK_i64]; omega, roundK_mk (by kernel_rfl) ⟨i + 1, by omega, rfl, push_old hb2, hx.push _, by simp; omega, a', len, cap, rfl, by omega, by rw [no1 t1]; exact O.ext ((Ext.refl h2).push _)⟩ ?_⟩
        show n - ((i : Int) + 1).toNat < n - (i : Int).toNat
        omega
      all_goals
        have t2 : dayB es lo hi i = false := by rw [td]; simp; omega
        refine ⟨by rw [inK_i64]; omega, roundK_mk (by kernel_rfl) ⟨i + 1, by omega, rfl, push_old hb2, hx.push _, by simp; omega, a', len, cap, rfl, by omega, by rw [no2 t2]; exact O.ext ((Ext.refl h2).push _)⟩ ?_⟩
        show n - ((i : Int) + 1).toNat < n - (i : Int).toNat
        omega
    · obtain rfl : i = n := by omega
      simp only [hg, hg2, hb2, coreS, Value.cells, Value.oneCell', Nat.reduceAdd, Nat.reduceSub, Nat.reduceMul, Nat.reduceLeDiff, Int.reduceEq, Nat.reduceEqDiff, agg22, agg24, agg26, agg3, by26, by3, fo24_0, fo24_2, fo26_0, fo26_1, fo26_2, inf22, inf24, inf26, inf3, sz22, sz24, sz26, sz3, zero26, zero3, Tryz.underlying22, Tryz.underlying40]
      refine ⟨fun hlt => absurd hlt (by omega), fun _ => ⟨⟨_, _, _, by rw [hE], ?_, by omega⟩, hx⟩⟩
      rw [movR, if_pos hE, movL, ← hn]
      exact O.ints
  · have hE : movE acc cl who lo hi es = chk acc cl es := by unfold movE; rw [if_pos e0]
    simp only [e0, hb, decide_false, Bool.not_false, coreS, Value.cells, Value.oneCell', Nat.reduceAdd, Nat.reduceSub, Nat.reduceMul, Nat.reduceLeDiff, Int.reduceEq, Nat.reduceEqDiff, agg22, agg24, agg26, agg3, by26, by3, fo24_0, fo24_2, fo26_0, fo26_1, fo26_2, inf22, inf24, inf26, inf3, sz22, sz24, sz26, sz3, zero26, zero3, Tryz.underlying22, Tryz.underlying40]
    refine CallsH.mono (check26 acc cl a n c es _ (hr.ext y1) hn hl) ?_
    rintro v h2 ⟨rfl, x2⟩
    simp only [coreS, Value.cells, Value.oneCell', Nat.reduceAdd, Nat.reduceSub, Nat.reduceMul, Nat.reduceLeDiff, Int.reduceEq, Nat.reduceEqDiff, agg22, agg24, agg26, agg3, by26, by3, fo24_0, fo24_2, fo26_0, fo26_1, fo26_2, inf22, inf24, inf26, inf3, sz22, sz24, sz26, sz3, zero26, zero3, Tryz.underlying22, Tryz.underlying40]
    exact ⟨⟨_, _, _, by rw [hE], by rw [movR, if_neg (by omega)]; exact IntsV.nil _, by omega⟩, y1.trans x2⟩
end Go.Proofs.YtepaekbjoombpaaGreatDoor
