/- Walks: CheckBook of the reference; open, dayError, great. -/
import Derived.Test.YtepaekbjoombpaaGreatDoorA3
namespace Go.Proofs.YtepaekbjoombpaaGreatDoor
open Go Go.Proofs Go.Eng Tab
set_option maxRecDepth 100000
set_option linter.unusedSimpArgs false
set_option linter.unusedVariables false
set_option maxHeartbeats 1000000
set_option linter.defProp false
def A4Fs26 := (And.intro (And.intro (And.intro (And.intro @agg22 @agg26) (And.intro @agg3 @by26)) (And.intro (And.intro @fo24_0 @fo24_1) (And.intro @fo24_2 @fo26_0))) (And.intro (And.intro (And.intro @fo26_1 @fo26_2) (And.intro @inf22 @inf26)) (And.intro (And.intro @inf3 @sz22) (And.intro @sz26 (And.intro @sz3 @Tryz.underlying22)))))
theorem gq_none {P : Program} {R : Eng.Heap → Eng.Heap → Prop} {s : Tmp} {w : Bool} {op : Op} {ty : TypeId} {all : List Oper} {rest : List (Nat × Nat)} {k : Cont} {dst : Option Tmp} {e : Env} {d : List Deferred} {h : Eng.Heap} : gq P R undef s w op ty all rest k dst e d h = execD P R all rest k (putE e dst undef) d h := gq_undef
theorem Row.addr {h : Eng.Heap} {a : Option Addr} {cs : List Value} (H : Row h a cs) (hl : 0 < cs.length) : ∃ g off, a = some ⟨g, off, none⟩ := by
  rcases H with H | ⟨g, off, cur, ct, fr, h1, _⟩
  · simp [H] at hl
  · exact ⟨g, off, h1⟩
theorem rowF {h : Eng.Heap} {g off : Nat} {es : List En} (hr : Row h (some ⟨g, off, none⟩) (ensV es)) {j : Nat} (hj : j < es.length) (k : Nat) (hk : k < 4) : cellH h (some ⟨g, off + j * 4 + k, none⟩) = (enV es[j])[k]? := by
  have h1 := hr.cell (j := j * 4 + k) (by rw [ensV_length]; omega)
  have h2 := ensV_at es j k hj hk
  rw [List.getElem?_eq_getElem (by rw [ensV_length]; omega)] at h2
  rw [eltP_some] at h1
  rw [Nat.add_assoc, h1, h2]
theorem check26 (acc cl : Int) (a : Option Addr) (n c : Nat) (es : List En) (h : Eng.Heap) (hr : Row h a (ensV es)) (hn : n = es.length) (hl : n ≤ 1000000) :
    CallsH Tryz.prog 26 #[.agg #[.int .i64 acc, .int .i64 cl, .slice a n c]] h (fun v h' => v = .int .i64 (chk acc cl es) ∧ Ext h h') := by
  refine CallsH_of_exec Tryz.func26 rfl bod26 ?_
  simp only [Tryz.ntmps26, Tryz.results26, coreS, stK_some, splice, Value.cells, Value.oneCell', Nat.reduceAdd, Nat.reduceSub, Nat.reduceMul, Nat.reduceLeDiff, Int.reduceEq, Nat.reduceEqDiff, A4Fs26]
  have x0 : Ext h (h.push (.cells #[.int .i64 acc, .int .i64 cl, .slice a n c] 24)) := (Ext.refl h).push _
  have key : ∀ {p : Prop}, chk acc cl es = 6 → p → Value.int .i64 6 = Value.int .i64 (chk acc cl es) ∧ p := fun h hp => ⟨by rw [h], hp⟩
  refine ⟨fun h1 => ?_, fun h1 => ⟨fun h2 => ?_, fun h2 => ⟨fun h3 => ?_, fun h3 => ?_⟩⟩⟩
  · exact key (by unfold chk; rw [if_pos (.inl (by omega))]) x0
  · exact key (by unfold chk; rw [if_pos (.inl (by omega))]) x0
  · exact key (by unfold chk; rw [if_pos (.inr (by omega))]) x0
  have x0b : (h.push (.cells #[.int .i64 acc, .int .i64 cl, .slice a n c] 24))[h.size]? = some (.cells #[.int .i64 acc, .int .i64 cl, .slice a n c] 24) := push_new
  refine ⟨fun h4 => ?_, fun h4 => ⟨fun h5 => ?_, fun h5 => ?_⟩⟩
  · exact ⟨by rw [chk, if_neg (by omega), if_pos (.inl (by omega))], x0⟩
  · exact ⟨by rw [chk, if_neg (by omega), if_pos (.inl (by omega))], x0⟩
  have k3 : ∀ {e : En}, e ∈ es → ¬ okE acc e → chk acc cl es = 3 := fun he hk => by rw [chk, if_neg (by omega), if_pos (.inr fun hh => hk (hh _ he))]
  refine WP_loopI [2, 3, 27, 28, 29, 30, 31, 32, 33, 34, 35, 36, 37, 38, 39, 40, 41, 42] (fun g h' => ∃ i : Nat, i ≤ n ∧ g 3 = .int .i64 i ∧ (∀ e ∈ es.take i, okE acc e) ∧ Ext (h.push (.cells #[.int .i64 acc, .int .i64 cl, .slice a n c] 24)) h') (fun g _ => match g 3 with | .int _ m => n - m.toNat | _ => 0) ⟨0, by omega, rfl, by simp, Ext.refl _⟩ ?_
  rintro g h' ⟨i, hin, hg3, hok, hx⟩
  have hb := hx.get x0b
  have hxe := x0.trans hx
  by_cases hi : i < es.length
  · have hsm : a.isSome = true := hr.isSome (by rw [ensV_length]; omega)
    have hc1 := rowE (hr.ext hxe) hi
    simp only [hg3, hb, coreS, Value.cells, Value.oneCell', Nat.reduceAdd, Nat.reduceSub, Nat.reduceMul, Nat.reduceLeDiff, Int.reduceEq, Nat.reduceEqDiff, A4Fs26]
    refine ⟨fun _ => ?_, fun hge => absurd hge (by omega)⟩
    refine WP_draw (by kernel_rfl) sta_ext [(0, 0), (1, 0), (2, 0), (3, 0), (4, 0), (5, 0), (6, 0), (7, 0), (8, 0)] (by kernel_rfl) rfl (by kernel_rfl) ?_
    simp only [hg3, hb, hc1, Int.toNat_natCast, coreS, Value.cells, Value.oneCell', Nat.reduceAdd, Nat.reduceSub, Nat.reduceMul, Nat.reduceLeDiff, Int.reduceEq, Nat.reduceEqDiff, drawS, A4Fs26]
    refine ⟨by omega, hsm, ?_⟩
    refine cQ_ext _ (fun h2 x2 => CallsH.mono (numbers70 acc es[i] h2) fun v h3 q => ⟨q.1, q.2⟩) ?_
    have htk : es.take (i + 1) = es.take i ++ [es[i]] := by rw [List.take_add_one, List.getElem?_eq_getElem hi]; rfl
    by_cases ho : okE acc es[i]
    · simp only [ho, if_true, coreS, Value.cells, Value.oneCell', Nat.reduceAdd, Nat.reduceSub, Nat.reduceMul, Nat.reduceLeDiff, Int.reduceEq, Nat.reduceEqDiff, drawS, A4Fs26]
      refine hvK_mk fun h2 x2 => ?_
      simp only [coreS, Value.cells, Value.oneCell', Nat.reduceAdd, Nat.reduceSub, Nat.reduceMul, Nat.reduceLeDiff, Int.reduceEq, Nat.reduceEqDiff, drawS, A4Fs26]
      refine ⟨by rw [inK_i64]; omega, roundK_mk (by kernel_rfl) ⟨i + 1, by omega, rfl, fun e he => ?_, hx.trans x2⟩ ?_⟩
      · rw [htk, List.mem_append, List.mem_singleton] at he
        rcases he with he | rfl
        · exact hok e he
        · exact ho
      · show n - ((i : Int) + 1).toNat < n - (i : Int).toNat
        omega
    · simp only [ho, if_false, coreS, Value.cells, Value.oneCell', Nat.reduceAdd, Nat.reduceSub, Nat.reduceMul, Nat.reduceLeDiff, Int.reduceEq, Nat.reduceEqDiff, drawS, A4Fs26]
      refine hvK_mk fun h2 x2 => ?_
      simp only [coreS, Value.cells, Value.oneCell', Nat.reduceAdd, Nat.reduceSub, Nat.reduceMul, Nat.reduceLeDiff, Int.reduceEq, Nat.reduceEqDiff, drawS, A4Fs26]
      exact ⟨by rw [k3 (List.getElem_mem hi) ho], hxe.trans x2⟩
  · obtain rfl : i = n := by omega
    rw [List.take_of_length_le (by omega)] at hok
    simp only [hg3, hb, coreS, Value.cells, Value.oneCell', Nat.reduceAdd, Nat.reduceSub, Nat.reduceMul, Nat.reduceLeDiff, Int.reduceEq, Nat.reduceEqDiff, A4Fs26]
    refine ⟨fun hlt => absurd hlt (by omega), fun _ => ?_⟩
    have k16 : (¬ sortedE es ∨ ∃ e ∈ es, e.f = e.t) → chk acc cl es = 16 := fun hh => by rw [chk, if_neg (by omega), if_neg (by rintro (h6 | h6); exact h6 ⟨by omega, by omega⟩; exact h6 hok), if_pos hh]
    refine WP_loopI [2, 4, 43, 44, 45, 46, 47, 48, 49, 50, 51, 52, 53, 54, 55, 56, 57, 58, 59, 60, 61, 62, 63, 64, 65, 66, 67, 68, 69, 70, 71, 72, 73, 74, 75, 76, 77, 78, 79, 80, 81, 82] (fun g h'' => ∃ j : Nat, j ≤ i ∧ g 4 = .int .i64 j ∧ (∀ e ∈ es.take j, e.f ≠ e.t) ∧ (∀ k (hk : k + 1 < es.length), k + 1 < j → (es[k]'(by omega)).d ≤ es[k + 1].d) ∧ Ext h' h'') (fun g _ => match g 4 with | .int _ m => i - m.toNat | _ => 0) ⟨0, by omega, rfl, by simp, fun k hk h6 => by omega, Ext.refl _⟩ ?_
    rintro g2 h2 ⟨j, hjn, hg4, hne, hso, hx2⟩
    have hb2 := hx2.get hb
    have hxe2 := hxe.trans hx2
    by_cases hj : j < es.length
    · have hsm : a.isSome = true := hr.isSome (by rw [ensV_length]; omega)
      obtain ⟨g0, off, rfl⟩ := Row.addr hr (by rw [ensV_length]; omega)
      have hr2 := hr.ext hxe2
      have c1 : cellH h2 (some ⟨g0, off + j * 4 + 1, none⟩) = some (.int .i64 es[j].f) := rowF hr2 hj 1 (by omega)
      have c2 : cellH h2 (some ⟨g0, off + j * 4 + 2, none⟩) = some (.int .i64 es[j].t) := rowF hr2 hj 2 (by omega)
      have c0 : cellH h2 (some ⟨g0, off + j * 4, none⟩) = some (.int .i64 es[j].d) := rowF hr2 hj 0 (by omega)
      simp only [hg4, hb2, coreS, Value.cells, Value.oneCell', Nat.reduceAdd, Nat.reduceSub, Nat.reduceMul, Nat.reduceLeDiff, Int.reduceEq, Nat.reduceEqDiff, A4Fs26]
      refine ⟨fun _ => ?_, fun hge => absurd hge (by omega)⟩
      refine WP_draw (by kernel_rfl) sta_eq [(0, 0), (1, 0), (2, 0), (3, 0), (4, 0), (5, 0), (6, 0), (7, 0), (8, 0), (9, 0), (10, 0), (11, 0), (12, 0), (13, 0), (14, 0), (15, 0), (16, 0), (17, 0), (18, 0), (19, 0), (20, 0), (21, 0), (22, 0), (23, 0), (24, 0), (25, 0), (26, 0), (27, 0), (28, 0), (29, 0), (30, 0), (31, 0), (32, 0)] (by kernel_rfl) rfl (by kernel_rfl) ?_
      by_cases hft : es[j].f = es[j].t
      · simp only [hg4, hb2, c1, c2, c0, hft, gq_none, decide_true, eltP_some, Nat.add_zero, Int.toNat_natCast, coreS, Value.cells, Value.oneCell', Nat.reduceAdd, Nat.reduceSub, Nat.reduceMul, Nat.reduceLeDiff, Int.reduceEq, Nat.reduceEqDiff, drawS, A4Fs26]
        refine ⟨by omega, by first | rfl | trivial, by omega, by first | rfl | trivial, ?_⟩
        exact ⟨by rw [k16 (.inr ⟨_, List.getElem_mem hj, hft⟩)], hxe2⟩
      · have htk : es.take (j + 1) = es.take j ++ [es[j]] := by rw [List.take_add_one, List.getElem?_eq_getElem hj]; rfl
        have hne' : ∀ e ∈ es.take (j + 1), e.f ≠ e.t := fun e he => by
          rw [htk, List.mem_append, List.mem_singleton] at he
          rcases he with he | rfl
          · exact hne e he
          · exact hft
        rcases j with _ | m
        · have hz : ¬ ((0 : Nat) : Int) > 0 := by omega
          have hz2 : ¬ (0 : Int) < ((0 : Nat) : Int) := by omega
          simp only [hg4, hb2, c1, c2, c0, hft, hz, hz2, gq_none, decide_false, eltP_some, Nat.add_zero, Int.toNat_natCast, coreS, Value.cells, Value.oneCell', Nat.reduceAdd, Nat.reduceSub, Nat.reduceMul, Nat.reduceLeDiff, Int.reduceEq, Nat.reduceEqDiff, drawS, A4Fs26]
          refine ⟨by omega, by first | rfl | trivial, by omega, by first | rfl | trivial, ?_⟩
          refine ⟨by rw [inK_i64]; omega, roundK_mk (by kernel_rfl) ⟨1, by omega, rfl, hne', fun k hk h6 => by omega, hx2⟩ ?_⟩
          show i - ((0 : Int) + 1).toNat < i - (0 : Int).toNat
          omega
        · have hz2 : (0 : Int) < ((m + 1 : Nat) : Int) := by omega
          have t1 : (((m + 1 : Nat) : Int) - 1).toNat = m := by omega
          have hm : m < es.length := by omega
          have c3 : cellH h2 (some ⟨g0, off + m * 4, none⟩) = some (.int .i64 es[m].d) := rowF hr2 hm 0 (by omega)
          by_cases hlt : es[m + 1].d < es[m].d
          · simp only [hg4, hb2, c1, c2, c0, c3, t1, hft, hz2, hlt, gq_none, decide_true, decide_false, eltP_some, Nat.add_zero, Int.toNat_natCast, coreS, Value.cells, Value.oneCell', Nat.reduceAdd, Nat.reduceSub, Nat.reduceMul, Nat.reduceLeDiff, Int.reduceEq, Nat.reduceEqDiff, drawS, A4Fs26]
            repeat (refine And.intro (by first | omega | (rw [inK_i64]; omega) | rfl | assumption) ?_)
            exact ⟨by rw [k16 (.inl fun hs => by have := hs m hj; omega)], hxe2⟩
          · simp only [hg4, hb2, c1, c2, c0, c3, t1, hft, hz2, hlt, gq_none, decide_true, decide_false, eltP_some, Nat.add_zero, Int.toNat_natCast, coreS, Value.cells, Value.oneCell', Nat.reduceAdd, Nat.reduceSub, Nat.reduceMul, Nat.reduceLeDiff, Int.reduceEq, Nat.reduceEqDiff, drawS, A4Fs26]
            repeat (refine And.intro (by first | omega | (rw [inK_i64]; omega) | rfl | assumption) ?_)
            refine roundK_mk (by kernel_rfl) ⟨m + 1 + 1, by omega, rfl, hne', fun k hk h6 => ?_, hx2⟩ ?_
            · by_cases hkm : k = m
              · subst hkm; omega
              · exact hso k hk (by omega)
            · show i - (((m + 1 : Nat) : Int) + 1).toNat < i - ((m + 1 : Nat) : Int).toNat
              omega
    · obtain rfl : j = i := by omega
      rw [List.take_of_length_le (by omega)] at hne
      simp only [hg4, hb2, coreS, Value.cells, Value.oneCell', Nat.reduceAdd, Nat.reduceSub, Nat.reduceMul, Nat.reduceLeDiff, Int.reduceEq, Nat.reduceEqDiff, A4Fs26]
      refine ⟨fun hlt => absurd hlt (by omega), fun _ => ?_⟩
      have hc : chk acc cl es = 0 := by
        rw [chk, if_neg (by omega), if_neg (by rintro (h6 | h6); exact h6 ⟨by omega, by omega⟩; exact h6 hok), if_neg]
        rintro (h6 | ⟨e, he, h6⟩)
        · exact h6 fun k hk => hso k hk (by omega)
        · exact hne e he h6
      exact ⟨by rw [hc], hxe2⟩
end Go.Proofs.YtepaekbjoombpaaGreatDoor
