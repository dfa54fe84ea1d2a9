/- Walks: Post, of the reference. -/
import Derived.Test.YtepaekbjoombpaaGreatDoorC2
import Derived.Test.YtepaekbjoombpaaGreatDoorEngK
namespace Go.Proofs.YtepaekbjoombpaaGreatDoor
open Go Go.Proofs Go.Eng Go.Run Tab
set_option maxRecDepth 100000
set_option linter.unusedSimpArgs false
set_option linter.unusedVariables false
set_option maxHeartbeats 2000000
set_option linter.defProp false
def C3Fs20 := (And.intro (And.intro (And.intro (And.intro @agg22 (And.intro @agg24 @agg26)) (And.intro @agg3 (And.intro @by26 @fo24_0))) (And.intro (And.intro @fo24_1 (And.intro @fo24_2 @fo26_0)) (And.intro (And.intro @fo26_1 @fo26_2) (And.intro @fps24_0 @fps24_1)))) (And.intro (And.intro (And.intro @fps24_2 (And.intro @inf22 @inf24)) (And.intro @inf26 (And.intro @inf3 @okf24))) (And.intro (And.intro @sz22 (And.intro @sz24 @sz26)) (And.intro (And.intro @sz3 @zero24) (And.intro @zero26 @Tryz.underlying22)))))
theorem apf22 {h : Eng.Heap} {er : Env} {ty : TypeId} {x y : Operand} {g : Nat} {b : Option Addr} {m c : Nat} {ys : List En} {K : Value → Eng.Heap → Prop} (hx : ev er x = .slice (some ⟨g, 0, none⟩) 0 0) (hy : ev er y = .slice b m c) (q2 : h[g]? = some (.cells #[] 26)) (I : Row h b (ensV ys)) (hm : ys.length = m) (hb : m ≤ 1000)
    (H : ∀ a' cap' h', OwnV g h' 26 4 a' m cap' (ensV ys) → Ext h h' → K (.slice a' m cap') h') : opSem Tryz.prog (.call ⟨.builtin .append, #[x, y], #[22, 22]⟩) ty er h K :=
  append_freshT Tryz.underlying22 Tryz.underlying22 inf26 sz26 zero26 (by rfl) hx hy q2 I (by rw [ensV_length, hm]) (fun u hu => by
    simp only [ensV, List.mem_flatMap, enV] at hu
    obtain ⟨e, _, hu⟩ := hu
    simp at hu
    rcases hu with rfl | rfl | rfl | rfl <;> rfl) (by omega) (by rw [by26]; omega) H
theorem insK_at {es : List En} {e : En} {k : Nat} (hk : k ≤ es.length) (H : ∀ x ∈ es.take k, x.d ≤ e.d) (hs : ∀ h : k < es.length, e.d < es[k].d) : insK es e = k := by
  unfold insK
  by_cases h : k < es.length
  · rw [List.findIdx_eq h]
    refine ⟨by simpa using hs h, fun j hj => ?_⟩
    have hj' : j < es.length := by omega
    have := H es[j] (by rw [List.mem_take_iff_getElem]; exact ⟨j, by omega, rfl⟩)
    simp only [decide_eq_false_iff_not]
    omega
  · have hkn : k = es.length := by omega
    subst hkn
    rw [List.findIdx_eq_length]
    intro x hx
    have := H x (by simpa using hx)
    simp only [decide_eq_false_iff_not]
    omega
theorem post20 (acc cl : Int) (a : Option Addr) (n c : Nat) (es : List En) (e : En) (h : Eng.Heap) (hr : Row h a (ensV es)) (hn : n = es.length) (hl : n ≤ 1000000) (hcap : n ≤ c) :
    CallsH Tryz.prog 20 #[.agg #[.int .i64 acc, .int .i64 cl, .slice a n c], .agg #[.int .i64 e.d, .int .i64 e.f, .int .i64 e.t, .int .i64 e.a]] h (fun v h' =>
      (∃ a' n' c', v = .tuple #[.agg #[.int .i64 (pstA acc cl es e), .int .i64 (pstC acc cl es e), .slice a' n' c'], .int .i64 (pst acc cl es e)] ∧ Row h' a' (ensV (pstL acc cl es e)) ∧ n' = (pstL acc cl es e).length ∧ ∀ p, a' = some p → h.size ≤ p.block) ∧ Ext h h') := by
  refine CallsH_of_exec Tryz.func20 rfl bod20 ?_
  simp only [Tryz.ntmps20, Tryz.results20, coreS, stK_some, splice, Value.cells, Value.oneCell', Nat.reduceAdd, Nat.reduceSub, Nat.reduceMul, Nat.reduceLeDiff, Int.reduceEq, Nat.reduceEqDiff, C3Fs20]
  simp only [show ¬ (h.size = h.size + 1 + 1) by omega, if_false, coreS, Value.cells, Value.oneCell', Nat.reduceAdd, Nat.reduceSub, Nat.reduceMul, Nat.reduceLeDiff, Int.reduceEq, Nat.reduceEqDiff, C3Fs20]
  refine CallsH.mono (check26 acc cl a n c es _ (((hr.push _).push _).push _) hn hl) ?_
  rintro v h1 ⟨rfl, x1⟩
  have hb0 := x1.get (push_old (push_old (push_new (h := h))))
  have hb1 := x1.get (push_old pn1)
  have hb2 : h1[h.size + 2]? = some (.cells #[.int .i64 0, .int .i64 0, .slice none 0 0] 24) := x1.get (by rw [Array.getElem?_push, if_pos (by simp)])
  have y1 := x1.of_push.of_push.of_push
  have bad : ∀ {p : Int} {h2 : Eng.Heap}, pst acc cl es e = p → p ≠ 0 → Ext h h2 → (∃ a' n' c', Value.tuple #[.agg #[.int .i64 0, .int .i64 0, .slice none 0 0], .int .i64 p] = .tuple #[.agg #[.int .i64 (pstA acc cl es e), .int .i64 (pstC acc cl es e), .slice a' n' c'], .int .i64 (pst acc cl es e)] ∧ Row h2 a' (ensV (pstL acc cl es e)) ∧ n' = (pstL acc cl es e).length ∧ ∀ p, a' = some p → h.size ≤ p.block) ∧ Ext h h2 := by
    rintro p h2 rfl hp x
    exact ⟨⟨none, 0, 0, by rw [pstA, pstC, if_neg hp, if_neg hp], by rw [pstL, if_neg hp]; exact .inl rfl, by rw [pstL, if_neg hp]; rfl, fun p hp => (by cases hp)⟩, x⟩
  by_cases hc : chk acc cl es = 0
  · obtain ⟨ha, hl2, hcl, hok, hso, hft⟩ := chk_ok hc
    simp only [hc, hb0, hb1, decide_true, Bool.not_true, coreS, Value.cells, Value.oneCell', Nat.reduceAdd, Nat.reduceSub, Nat.reduceMul, Nat.reduceLeDiff, Int.reduceEq, Nat.reduceEqDiff, C3Fs20]
    refine CallsH.mono (numbers70 acc e _) ?_
    rintro v h2 ⟨rfl, x2⟩
    have c0 := x2.get hb0
    have c1 := x2.get hb1
    have c2 := x2.get hb2
    have y2 := y1.trans x2
    by_cases hoe : okE acc e
    · by_cases hee : e.f = e.t
      · have hp : pst acc cl es e = 16 := by unfold pst; rw [if_neg (by simpa using hc), if_neg (by simpa using hoe), if_pos hee]
        simp only [hoe, if_true, hee, c0, c1, c2, decide_true, Bool.not_true, coreS, Value.cells, Value.oneCell', Nat.reduceAdd, Nat.reduceSub, Nat.reduceMul, Nat.reduceLeDiff, Int.reduceEq, Nat.reduceEqDiff, C3Fs20]
        refine stK_abs c2 (by simp) fun h9 g9 u9 => ?_
        simp only [splice] at g9
        simp only [g9, splice, coreS, Value.cells, Value.oneCell', Nat.reduceAdd, Nat.reduceSub, Nat.reduceMul, Nat.reduceLeDiff, Int.reduceEq, Nat.reduceEqDiff, C3Fs20]
        exact bad (hp) (by omega) (u9.ext y2 (by omega))
      by_cases hdc : e.d ≤ cl
      · have hp : pst acc cl es e = 25 := by unfold pst; rw [if_neg (by simpa using hc), if_neg (by simpa using hoe), if_neg hee, if_pos hdc]
        simp only [hoe, if_true, hee, hdc, c0, c1, c2, decide_true, decide_false, Bool.not_true, coreS, Value.cells, Value.oneCell', Nat.reduceAdd, Nat.reduceSub, Nat.reduceMul, Nat.reduceLeDiff, Int.reduceEq, Nat.reduceEqDiff, C3Fs20]
        refine stK_abs c2 (by simp) fun h9 g9 u9 => ?_
        simp only [splice] at g9
        simp only [g9, splice, coreS, Value.cells, Value.oneCell', Nat.reduceAdd, Nat.reduceSub, Nat.reduceMul, Nat.reduceLeDiff, Int.reduceEq, Nat.reduceEqDiff, C3Fs20]
        exact bad (hp) (by omega) (u9.ext y2 (by omega))
      by_cases h20 : (n : Int) = 20
      · have hp : pst acc cl es e = 6 := by unfold pst; rw [if_neg (by simpa using hc), if_neg (by simpa using hoe), if_neg hee, if_neg hdc, if_pos (by omega)]
        simp only [hoe, if_true, hee, hdc, h20, c0, c1, c2, decide_true, decide_false, Bool.not_true, coreS, Value.cells, Value.oneCell', Nat.reduceAdd, Nat.reduceSub, Nat.reduceMul, Nat.reduceLeDiff, Int.reduceEq, Nat.reduceEqDiff, C3Fs20]
        refine stK_abs c2 (by simp) fun h9 g9 u9 => ?_
        simp only [splice] at g9
        simp only [g9, splice, coreS, Value.cells, Value.oneCell', Nat.reduceAdd, Nat.reduceSub, Nat.reduceMul, Nat.reduceLeDiff, Int.reduceEq, Nat.reduceEqDiff, C3Fs20]
        exact bad (hp) (by omega) (u9.ext y2 (by omega))
      have hp : pst acc cl es e = 0 := by unfold pst; rw [if_neg (by simpa using hc), if_neg (by simpa using hoe), if_neg hee, if_neg hdc, if_neg (by omega)]
      simp only [hoe, if_true, hee, hdc, h20, c0, c1, c2, decide_true, decide_false, Bool.not_true, coreS, Value.cells, Value.oneCell', Nat.reduceAdd, Nat.reduceSub, Nat.reduceMul, Nat.reduceLeDiff, Int.reduceEq, Nat.reduceEqDiff, C3Fs20]
      refine WP_loopI [6, 37, 38, 39, 40, 41, 42, 43, 44, 45, 46, 47, 48, 49, 50, 51, 52, 53, 54] (fun g h' => h' = h2 ∧ ∃ i : Nat, i ≤ n ∧ g 6 = .int .i64 i ∧ ∀ x ∈ es.take i, x.d ≤ e.d) (fun g _ => match g 6 with | .int _ m => n - m.toNat | _ => 0) ⟨rfl, 0, by omega, rfl, by simp⟩ ?_
      rintro g h3 ⟨rfl, k, hkn, hg, hno⟩
      simp only [hg, coreS, Value.cells, Value.oneCell', Nat.reduceAdd, Nat.reduceSub, Nat.reduceMul, Nat.reduceLeDiff, Int.reduceEq, Nat.reduceEqDiff, C3Fs20]
      refine WP_draw (by kernel_rfl) sta_eq [(0, 0), (1, 0), (2, 0), (3, 0), (4, 0), (5, 0), (6, 0), (7, 0), (8, 0), (9, 0), (10, 0), (11, 0), (12, 0), (13, 0), (14, 0), (15, 0)] (by kernel_rfl) rfl (by kernel_rfl) ?_
      by_cases hi : k < es.length
      · have hsm : a.isSome = true := hr.isSome (by rw [ensV_length]; omega)
        obtain ⟨g0, off, rfl⟩ := Row.addr hr (by rw [ensV_length]; omega)
        have q1 : cellH h3 (some ⟨g0, off + k * 4, none⟩) = some (.int .i64 es[k].d) := rowF (hr.ext y2) hi 0 (by omega)
        have hlt : (k : Int) < n := by omega
        by_cases hd2 : es[k].d ≤ e.d
        · simp only [hlt, hg, c0, c1, q1, hd2, gq_none, decide_true, eltP_some, Nat.add_zero, Int.toNat_natCast, hvK_eq, coreS, Value.cells, Value.oneCell', Nat.reduceAdd, Nat.reduceSub, Nat.reduceMul, Nat.reduceLeDiff, Int.reduceEq, Nat.reduceEqDiff, drawS, C3Fs20]
          repeat (refine And.intro (by first | omega | (rw [inK_i64]; omega) | rfl | assumption) ?_)
          refine roundK_mk (by kernel_rfl) ⟨rfl, k + 1, by omega, rfl, fun x hx => ?_⟩ ?_
          · rw [take_nextE hi, List.mem_append, List.mem_singleton] at hx
            rcases hx with hx | rfl
            · exact hno x hx
            · exact hd2
          · show n - ((k : Int) + 1).toNat < n - (k : Int).toNat
            omega
        simp only [hlt, hg, c0, c1, q1, hd2, gq_none, decide_true, decide_false, eltP_some, Nat.add_zero, Int.toNat_natCast, hvK_eq, coreS, Value.cells, Value.oneCell', Nat.reduceAdd, Nat.reduceSub, Nat.reduceMul, Nat.reduceLeDiff, Int.reduceEq, Nat.reduceEqDiff, drawS, C3Fs20]
        repeat (refine And.intro (by first | omega | (rw [inK_i64]; omega) | rfl | assumption) ?_)
        have hik : insK es e = k := insK_at (by omega) hno fun _ => by omega
        refine WP_tree (by kernel_rfl) sta_ext (.quiet 1 (.quiet 2 (.quiet 3 (.quiet 4 (.quiet 6 (.fork 0 7 (.fork 5 7 (.keep 7 (.one 8 (.quiet 9 (.fin)))) (.keep 5 (.one 8 (.quiet 9 (.fin))))) (.keep 0 (.keep 5 (.one 8 (.quiet 9 (.fin))))))))))) (by kernel_rfl) rfl (by kernel_rfl) ?_
        have t1 : ((k : Int) - ((0 : Nat) : Int)).toNat = k := by omega
        simp only [execT_quiet, stT_plain, setT_eq, c0, c1, coreS, Value.cells, Value.oneCell', Nat.reduceAdd, Nat.reduceSub, Nat.reduceMul, Nat.reduceLeDiff, Int.reduceEq, Nat.reduceEqDiff, drawS, C3Fs20]
        simp only [eltP_zero, ite_self, t1, Nat.zero_mul, Nat.add_zero]
        have hIk : Row h3 (some ⟨g0, off, none⟩) (ensV (es.take k)) := by
          have := (hr.ext y2).take (k * 4)
          rwa [ensV_take] at this
        have t6 : ((n : Int) - (k : Int)).toNat = n - k := by omega
        have hs2 := lt_of_get c2
        have srcROW : ∀ {hh : Eng.Heap}, Row hh (some ⟨g0, off, none⟩) (ensV es) → Row hh (if (c : Int) = (k : Int) then (some ⟨g0, off, none⟩) else some ⟨g0, off + k * 4, none⟩) (ensV (es.drop k)) := fun {hh} H => by
          split
          · rw [List.drop_of_length_le (by omega)]; exact .inl rfl
          · have := H.sub (k * 4) ((n - k) * 4) (by rw [ensV_length]; omega)
            rw [ensV_drop, List.take_of_length_le (by rw [ensV_length, List.length_drop]; omega)] at this
            first | exact this | (rw [eltP_some] at this; exact this)
        have hlk : (es.take k).length = k := by rw [List.length_take]; omega
        refine ⟨by omega, by omega, by omega, by omega, ?_⟩
        refine execT_fork fun h4 x4 => ⟨?_, ?_⟩
        · simp only [stO_plain, splice, coreS, Value.cells, Value.oneCell', Nat.reduceAdd, Nat.reduceSub, Nat.reduceMul, Nat.reduceLeDiff, Int.reduceEq, Nat.reduceEqDiff, drawS, C3Fs20]
          refine ⟨by omega, (Ext.refl h4).push _, ?_⟩
          have hm0 : h3.size ≤ h4.size := x4.size
          refine execT_fork fun h5 x5 => ⟨?_, ?_⟩
          · simp only [stO_plain, coreS, Value.cells, Value.oneCell', Nat.reduceAdd, Nat.reduceSub, Nat.reduceMul, Nat.reduceLeDiff, Int.reduceEq, Nat.reduceEqDiff, drawS, C3Fs20]
            refine apf22 rfl rfl (x5.get push_new) (hIk.ext (x4.trans x5.of_push)) hlk (by omega) fun a6 c6 h6 O6 x6 => ⟨x6, ?_⟩
            refine execT_keep fun h7 x7 => ?_
            simp only [stO_plain, splice, coreS, Value.cells, Value.oneCell', Nat.reduceAdd, Nat.reduceSub, Nat.reduceMul, Nat.reduceLeDiff, Int.reduceEq, Nat.reduceEqDiff, drawS, C3Fs20]
            refine ⟨by omega, (Ext.refl h7).push _, ?_⟩
            refine execT_one fun h8 x8 => ?_
            simp only [stO_plain, coreS, Value.cells, Value.oneCell', Nat.reduceAdd, Nat.reduceSub, Nat.reduceMul, Nat.reduceLeDiff, Int.reduceEq, Nat.reduceEqDiff, drawS, C3Fs20]
            have hb8 := x8.get (push_new (h := h7))
            have O8 := ((O6.ext x7).ext ((Ext.refl h7).push _)).ext x8
            have xb := ((((x4.trans x5.of_push).trans x6).trans x7).push _).trans x8
            have hm8 : h4.size ≤ h8.size := by
              have z1 := x5.size
              have z2 := x6.size
              have z3 := x7.size
              have z4 := x8.size
              try simp only [push_size] at z1
              try simp only [push_size] at z2
              try simp only [push_size] at z3
              try simp only [push_size] at z4
              omega
            refine app22e (ys := [e]) rfl rfl O8 hm8 (Row.block (by simpa [ensV, enV] using hb8)) (by rfl) (by omega) fun a9 c9 h9 O9 A9 => ?_
            have X9 := A9.extV O8 xb hm0
            simp only [execT_quiet, stT_plain, setT_eq, coreS, Value.cells, Value.oneCell', Nat.reduceAdd, Nat.reduceSub, Nat.reduceMul, Nat.reduceLeDiff, Int.reduceEq, Nat.reduceEqDiff, drawS, C3Fs20]
            refine execT_fin fun h10 x10 => ?_
            have X10 := X9.trans x10
            have O10 := O9.ext x10
            have hs10 := X10.size
            simp only [coreS, Value.cells, Value.oneCell', Nat.reduceAdd, Nat.reduceSub, Nat.reduceMul, Nat.reduceLeDiff, Int.reduceEq, Nat.reduceEqDiff, C3Fs20]
            refine WP_tree (by kernel_rfl) sta_eq (.pure 0 (.pure 2 (.quiet 4 (.quiet 5 (.quiet 6 (.quiet 7 (.quiet 8 (.fork3 1 3 9 true true false (.fork2 3 9 true false (.one 9 (.quiet 10 (.one 11 (.quiet 12 (.fin))))) (.quiet 3 (.quiet 10 (.one 11 (.quiet 12 (.fin)))))) (.fork2 1 9 true false (.one 9 (.quiet 10 (.one 11 (.quiet 12 (.fin))))) (.quiet 1 (.quiet 10 (.one 11 (.quiet 12 (.fin)))))) (.quiet 1 (.quiet 3 (.quiet 10 (.one 11 (.quiet 12 (.fin)))))))))))))) (by kernel_rfl) rfl (by kernel_rfl) ?_
            simp only [execT_quiet, stT_plain, execT_pure, stTp_plain, setT_eq, X10.get c0, t6, coreS, Value.cells, Value.oneCell', Nat.reduceAdd, Nat.reduceSub, Nat.reduceMul, Nat.reduceLeDiff, Int.reduceEq, Nat.reduceEqDiff, drawS, C3Fs20]
            refine ⟨by omega, by omega, by omega, by omega, ?_⟩
            refine execT_fork3E ?_ ?_ ?_
            · simp only [stO_plain, X10.get c0, coreS, Value.cells, Value.oneCell', Nat.reduceAdd, Nat.reduceSub, Nat.reduceMul, Nat.reduceLeDiff, Int.reduceEq, Nat.reduceEqDiff, drawS, C3Fs20]
              refine ⟨rfl, execT_fork2E ?_ ?_⟩
              · simp only [stO_plain, X10.get c0, coreS, Value.cells, Value.oneCell', Nat.reduceAdd, Nat.reduceSub, Nat.reduceMul, Nat.reduceLeDiff, Int.reduceEq, Nat.reduceEqDiff, drawS, C3Fs20]
                refine ⟨rfl, execT_oneE ?_⟩
                simp only [stO_plain, coreS, Value.cells, Value.oneCell', Nat.reduceAdd, Nat.reduceSub, Nat.reduceMul, Nat.reduceLeDiff, Int.reduceEq, Nat.reduceEqDiff, drawS, C3Fs20]
                refine app22e rfl rfl O10 (Nat.le_trans hm8 (Nat.le_trans A9.size x10.size)) (srcROW (hr.ext (y2.trans X10))) (by rw [List.length_drop]; omega) (by omega) fun a11 c11 h11 O11 A11 => ?_
                have X11 := A11.extV O10 X10 hm0
                have k0 := X11.get c0
                have k2 := X11.get c2
                try simp only [execT_quiet, stT_plain, setT_eq, k0, splice, coreS, Value.cells, Value.oneCell', Nat.reduceAdd, Nat.reduceSub, Nat.reduceMul, Nat.reduceLeDiff, Int.reduceEq, Nat.reduceEqDiff, drawS, C3Fs20]
                refine execT_oneE ?_
                simp only [stO_plain, k2, splice, coreS, Value.cells, Value.oneCell', Nat.reduceAdd, Nat.reduceSub, Nat.reduceMul, Nat.reduceLeDiff, Int.reduceEq, Nat.reduceEqDiff, drawS, C3Fs20]
                refine stK_abs k2 (by simp) fun h12 g12 u12 => ?_
                simp only [splice] at g12
                simp only [execT_quiet, stT_plain, setT_eq, coreS, Value.cells, Value.oneCell', Nat.reduceAdd, Nat.reduceSub, Nat.reduceMul, Nat.reduceLeDiff, Int.reduceEq, Nat.reduceEqDiff, drawS, C3Fs20]
                refine execT_finE ?_
                simp only [g12, splice, coreS, Value.cells, Value.oneCell', Nat.reduceAdd, Nat.reduceSub, Nat.reduceMul, Nat.reduceLeDiff, Int.reduceEq, Nat.reduceEqDiff, C3Fs20]
                refine ⟨⟨a11, _, _, by rw [pstA, pstC, if_pos hp, if_pos hp, hp], ?_, by rw [pstL, if_pos hp, ins_length]; omega, fun p hp => by have := (O11.lt hp).2; have := y2.size; omega⟩, u12.ext (y2.trans X11) (by omega)⟩
                rw [pstL, if_pos hp, ins, hik]
                have r11 := O11.row
                rw [List.append_assoc] at r11
                exact row_upd r11 u12 (fun p hp => by have := (O11.lt hp).2; omega)
              · simp only [stO_plain, coreS, Value.cells, Value.oneCell', Nat.reduceAdd, Nat.reduceSub, Nat.reduceMul, Nat.reduceLeDiff, Int.reduceEq, Nat.reduceEqDiff, drawS, C3Fs20]
                refine app22e rfl rfl O10 (Nat.le_trans hm8 (Nat.le_trans A9.size x10.size)) (srcROW (hr.ext (y2.trans X10))) (by rw [List.length_drop]; omega) (by omega) fun a11 c11 h11 O11 A11 => ?_
                have X11 := A11.extV O10 X10 hm0
                have k0 := X11.get c0
                have k2 := X11.get c2
                try simp only [execT_quiet, stT_plain, setT_eq, k0, splice, coreS, Value.cells, Value.oneCell', Nat.reduceAdd, Nat.reduceSub, Nat.reduceMul, Nat.reduceLeDiff, Int.reduceEq, Nat.reduceEqDiff, drawS, C3Fs20]
                refine execT_oneE ?_
                simp only [stO_plain, k2, splice, coreS, Value.cells, Value.oneCell', Nat.reduceAdd, Nat.reduceSub, Nat.reduceMul, Nat.reduceLeDiff, Int.reduceEq, Nat.reduceEqDiff, drawS, C3Fs20]
                refine stK_abs k2 (by simp) fun h12 g12 u12 => ?_
                simp only [splice] at g12
                simp only [execT_quiet, stT_plain, setT_eq, coreS, Value.cells, Value.oneCell', Nat.reduceAdd, Nat.reduceSub, Nat.reduceMul, Nat.reduceLeDiff, Int.reduceEq, Nat.reduceEqDiff, drawS, C3Fs20]
                refine execT_finE ?_
                simp only [g12, splice, coreS, Value.cells, Value.oneCell', Nat.reduceAdd, Nat.reduceSub, Nat.reduceMul, Nat.reduceLeDiff, Int.reduceEq, Nat.reduceEqDiff, C3Fs20]
                refine ⟨⟨a11, _, _, by rw [pstA, pstC, if_pos hp, if_pos hp, hp], ?_, by rw [pstL, if_pos hp, ins_length]; omega, fun p hp => by have := (O11.lt hp).2; have := y2.size; omega⟩, u12.ext (y2.trans X11) (by omega)⟩
                rw [pstL, if_pos hp, ins, hik]
                have r11 := O11.row
                rw [List.append_assoc] at r11
                exact row_upd r11 u12 (fun p hp => by have := (O11.lt hp).2; omega)
            · simp only [stO_plain, X10.get c0, coreS, Value.cells, Value.oneCell', Nat.reduceAdd, Nat.reduceSub, Nat.reduceMul, Nat.reduceLeDiff, Int.reduceEq, Nat.reduceEqDiff, drawS, C3Fs20]
              refine ⟨rfl, execT_fork2E ?_ ?_⟩
              · simp only [stO_plain, X10.get c0, coreS, Value.cells, Value.oneCell', Nat.reduceAdd, Nat.reduceSub, Nat.reduceMul, Nat.reduceLeDiff, Int.reduceEq, Nat.reduceEqDiff, drawS, C3Fs20]
                refine ⟨rfl, execT_oneE ?_⟩
                simp only [stO_plain, coreS, Value.cells, Value.oneCell', Nat.reduceAdd, Nat.reduceSub, Nat.reduceMul, Nat.reduceLeDiff, Int.reduceEq, Nat.reduceEqDiff, drawS, C3Fs20]
                refine app22e rfl rfl O10 (Nat.le_trans hm8 (Nat.le_trans A9.size x10.size)) (srcROW (hr.ext (y2.trans X10))) (by rw [List.length_drop]; omega) (by omega) fun a11 c11 h11 O11 A11 => ?_
                have X11 := A11.extV O10 X10 hm0
                have k0 := X11.get c0
                have k2 := X11.get c2
                try simp only [execT_quiet, stT_plain, setT_eq, k0, splice, coreS, Value.cells, Value.oneCell', Nat.reduceAdd, Nat.reduceSub, Nat.reduceMul, Nat.reduceLeDiff, Int.reduceEq, Nat.reduceEqDiff, drawS, C3Fs20]
                refine execT_oneE ?_
                simp only [stO_plain, k2, splice, coreS, Value.cells, Value.oneCell', Nat.reduceAdd, Nat.reduceSub, Nat.reduceMul, Nat.reduceLeDiff, Int.reduceEq, Nat.reduceEqDiff, drawS, C3Fs20]
                refine stK_abs k2 (by simp) fun h12 g12 u12 => ?_
                simp only [splice] at g12
                simp only [execT_quiet, stT_plain, setT_eq, coreS, Value.cells, Value.oneCell', Nat.reduceAdd, Nat.reduceSub, Nat.reduceMul, Nat.reduceLeDiff, Int.reduceEq, Nat.reduceEqDiff, drawS, C3Fs20]
                refine execT_finE ?_
                simp only [g12, splice, coreS, Value.cells, Value.oneCell', Nat.reduceAdd, Nat.reduceSub, Nat.reduceMul, Nat.reduceLeDiff, Int.reduceEq, Nat.reduceEqDiff, C3Fs20]
                refine ⟨⟨a11, _, _, by rw [pstA, pstC, if_pos hp, if_pos hp, hp], ?_, by rw [pstL, if_pos hp, ins_length]; omega, fun p hp => by have := (O11.lt hp).2; have := y2.size; omega⟩, u12.ext (y2.trans X11) (by omega)⟩
                rw [pstL, if_pos hp, ins, hik]
                have r11 := O11.row
                rw [List.append_assoc] at r11
                exact row_upd r11 u12 (fun p hp => by have := (O11.lt hp).2; omega)
              · simp only [stO_plain, coreS, Value.cells, Value.oneCell', Nat.reduceAdd, Nat.reduceSub, Nat.reduceMul, Nat.reduceLeDiff, Int.reduceEq, Nat.reduceEqDiff, drawS, C3Fs20]
                refine app22e rfl rfl O10 (Nat.le_trans hm8 (Nat.le_trans A9.size x10.size)) (srcROW (hr.ext (y2.trans X10))) (by rw [List.length_drop]; omega) (by omega) fun a11 c11 h11 O11 A11 => ?_
                have X11 := A11.extV O10 X10 hm0
                have k0 := X11.get c0
                have k2 := X11.get c2
                try simp only [execT_quiet, stT_plain, setT_eq, k0, splice, coreS, Value.cells, Value.oneCell', Nat.reduceAdd, Nat.reduceSub, Nat.reduceMul, Nat.reduceLeDiff, Int.reduceEq, Nat.reduceEqDiff, drawS, C3Fs20]
                refine execT_oneE ?_
                simp only [stO_plain, k2, splice, coreS, Value.cells, Value.oneCell', Nat.reduceAdd, Nat.reduceSub, Nat.reduceMul, Nat.reduceLeDiff, Int.reduceEq, Nat.reduceEqDiff, drawS, C3Fs20]
                refine stK_abs k2 (by simp) fun h12 g12 u12 => ?_
                simp only [splice] at g12
                simp only [execT_quiet, stT_plain, setT_eq, coreS, Value.cells, Value.oneCell', Nat.reduceAdd, Nat.reduceSub, Nat.reduceMul, Nat.reduceLeDiff, Int.reduceEq, Nat.reduceEqDiff, drawS, C3Fs20]
                refine execT_finE ?_
                simp only [g12, splice, coreS, Value.cells, Value.oneCell', Nat.reduceAdd, Nat.reduceSub, Nat.reduceMul, Nat.reduceLeDiff, Int.reduceEq, Nat.reduceEqDiff, C3Fs20]
                refine ⟨⟨a11, _, _, by rw [pstA, pstC, if_pos hp, if_pos hp, hp], ?_, by rw [pstL, if_pos hp, ins_length]; omega, fun p hp => by have := (O11.lt hp).2; have := y2.size; omega⟩, u12.ext (y2.trans X11) (by omega)⟩
                rw [pstL, if_pos hp, ins, hik]
                have r11 := O11.row
                rw [List.append_assoc] at r11
                exact row_upd r11 u12 (fun p hp => by have := (O11.lt hp).2; omega)
            · simp only [stO_plain, coreS, Value.cells, Value.oneCell', Nat.reduceAdd, Nat.reduceSub, Nat.reduceMul, Nat.reduceLeDiff, Int.reduceEq, Nat.reduceEqDiff, drawS, C3Fs20]
              refine app22e rfl rfl O10 (Nat.le_trans hm8 (Nat.le_trans A9.size x10.size)) (srcROW (hr.ext (y2.trans X10))) (by rw [List.length_drop]; omega) (by omega) fun a11 c11 h11 O11 A11 => ?_
              have X11 := A11.extV O10 X10 hm0
              have k0 := X11.get c0
              have k2 := X11.get c2
              try simp only [execT_quiet, stT_plain, setT_eq, k0, splice, coreS, Value.cells, Value.oneCell', Nat.reduceAdd, Nat.reduceSub, Nat.reduceMul, Nat.reduceLeDiff, Int.reduceEq, Nat.reduceEqDiff, drawS, C3Fs20]
              refine execT_oneE ?_
              simp only [stO_plain, k2, splice, coreS, Value.cells, Value.oneCell', Nat.reduceAdd, Nat.reduceSub, Nat.reduceMul, Nat.reduceLeDiff, Int.reduceEq, Nat.reduceEqDiff, drawS, C3Fs20]
              refine stK_abs k2 (by simp) fun h12 g12 u12 => ?_
              simp only [splice] at g12
              simp only [execT_quiet, stT_plain, setT_eq, coreS, Value.cells, Value.oneCell', Nat.reduceAdd, Nat.reduceSub, Nat.reduceMul, Nat.reduceLeDiff, Int.reduceEq, Nat.reduceEqDiff, drawS, C3Fs20]
              refine execT_finE ?_
              simp only [g12, splice, coreS, Value.cells, Value.oneCell', Nat.reduceAdd, Nat.reduceSub, Nat.reduceMul, Nat.reduceLeDiff, Int.reduceEq, Nat.reduceEqDiff, C3Fs20]
              refine ⟨⟨a11, _, _, by rw [pstA, pstC, if_pos hp, if_pos hp, hp], ?_, by rw [pstL, if_pos hp, ins_length]; omega, fun p hp => by have := (O11.lt hp).2; have := y2.size; omega⟩, u12.ext (y2.trans X11) (by omega)⟩
              rw [pstL, if_pos hp, ins, hik]
              have r11 := O11.row
              rw [List.append_assoc] at r11
              exact row_upd r11 u12 (fun p hp => by have := (O11.lt hp).2; omega)
          · simp only [stO_plain, splice, coreS, Value.cells, Value.oneCell', Nat.reduceAdd, Nat.reduceSub, Nat.reduceMul, Nat.reduceLeDiff, Int.reduceEq, Nat.reduceEqDiff, drawS, C3Fs20]
            refine ⟨by omega, (Ext.refl h5).push _, ?_⟩
            refine execT_keep fun h6 x6 => ?_
            simp only [stO_plain, coreS, Value.cells, Value.oneCell', Nat.reduceAdd, Nat.reduceSub, Nat.reduceMul, Nat.reduceLeDiff, Int.reduceEq, Nat.reduceEqDiff, drawS, C3Fs20]
            refine apf22 rfl rfl (x6.get (push_old (x5.get push_new))) (hIk.ext ((x4.trans x5.of_push).trans x6.of_push)) hlk (by omega) fun a6 c6 h7 O6 x7 => ⟨x7, ?_⟩
            refine execT_one fun h8 x8 => ?_
            simp only [stO_plain, coreS, Value.cells, Value.oneCell', Nat.reduceAdd, Nat.reduceSub, Nat.reduceMul, Nat.reduceLeDiff, Int.reduceEq, Nat.reduceEqDiff, drawS, C3Fs20]
            have hb8 := x8.get (x7.get (x6.get (push_new (h := h5))))
            have O8 := O6.ext x8
            have xb := (((x4.trans x5.of_push).trans x6.of_push).trans x7).trans x8
            have hm8 : h4.size ≤ h8.size := by
              have z1 := x5.size
              have z2 := x6.size
              have z3 := x7.size
              have z4 := x8.size
              try simp only [push_size] at z1
              try simp only [push_size] at z2
              try simp only [push_size] at z3
              try simp only [push_size] at z4
              omega
            refine app22e (ys := [e]) rfl rfl O8 hm8 (Row.block (by simpa [ensV, enV] using hb8)) (by rfl) (by omega) fun a9 c9 h9 O9 A9 => ?_
            have X9 := A9.extV O8 xb hm0
            simp only [execT_quiet, stT_plain, setT_eq, coreS, Value.cells, Value.oneCell', Nat.reduceAdd, Nat.reduceSub, Nat.reduceMul, Nat.reduceLeDiff, Int.reduceEq, Nat.reduceEqDiff, drawS, C3Fs20]
            refine execT_fin fun h10 x10 => ?_
            have X10 := X9.trans x10
            have O10 := O9.ext x10
            have hs10 := X10.size
            simp only [coreS, Value.cells, Value.oneCell', Nat.reduceAdd, Nat.reduceSub, Nat.reduceMul, Nat.reduceLeDiff, Int.reduceEq, Nat.reduceEqDiff, C3Fs20]
            refine WP_tree (by kernel_rfl) sta_eq (.pure 0 (.pure 2 (.quiet 4 (.quiet 5 (.quiet 6 (.quiet 7 (.quiet 8 (.fork3 1 3 9 true true false (.fork2 3 9 true false (.one 9 (.quiet 10 (.one 11 (.quiet 12 (.fin))))) (.quiet 3 (.quiet 10 (.one 11 (.quiet 12 (.fin)))))) (.fork2 1 9 true false (.one 9 (.quiet 10 (.one 11 (.quiet 12 (.fin))))) (.quiet 1 (.quiet 10 (.one 11 (.quiet 12 (.fin)))))) (.quiet 1 (.quiet 3 (.quiet 10 (.one 11 (.quiet 12 (.fin)))))))))))))) (by kernel_rfl) rfl (by kernel_rfl) ?_
            simp only [execT_quiet, stT_plain, execT_pure, stTp_plain, setT_eq, X10.get c0, t6, coreS, Value.cells, Value.oneCell', Nat.reduceAdd, Nat.reduceSub, Nat.reduceMul, Nat.reduceLeDiff, Int.reduceEq, Nat.reduceEqDiff, drawS, C3Fs20]
            refine ⟨by omega, by omega, by omega, by omega, ?_⟩
            refine execT_fork3E ?_ ?_ ?_
            · simp only [stO_plain, X10.get c0, coreS, Value.cells, Value.oneCell', Nat.reduceAdd, Nat.reduceSub, Nat.reduceMul, Nat.reduceLeDiff, Int.reduceEq, Nat.reduceEqDiff, drawS, C3Fs20]
              refine ⟨rfl, execT_fork2E ?_ ?_⟩
              · simp only [stO_plain, X10.get c0, coreS, Value.cells, Value.oneCell', Nat.reduceAdd, Nat.reduceSub, Nat.reduceMul, Nat.reduceLeDiff, Int.reduceEq, Nat.reduceEqDiff, drawS, C3Fs20]
                refine ⟨rfl, execT_oneE ?_⟩
                simp only [stO_plain, coreS, Value.cells, Value.oneCell', Nat.reduceAdd, Nat.reduceSub, Nat.reduceMul, Nat.reduceLeDiff, Int.reduceEq, Nat.reduceEqDiff, drawS, C3Fs20]
                refine app22e rfl rfl O10 (Nat.le_trans hm8 (Nat.le_trans A9.size x10.size)) (srcROW (hr.ext (y2.trans X10))) (by rw [List.length_drop]; omega) (by omega) fun a11 c11 h11 O11 A11 => ?_
                have X11 := A11.extV O10 X10 hm0
                have k0 := X11.get c0
                have k2 := X11.get c2
                try simp only [execT_quiet, stT_plain, setT_eq, k0, splice, coreS, Value.cells, Value.oneCell', Nat.reduceAdd, Nat.reduceSub, Nat.reduceMul, Nat.reduceLeDiff, Int.reduceEq, Nat.reduceEqDiff, drawS, C3Fs20]
                refine execT_oneE ?_
                simp only [stO_plain, k2, splice, coreS, Value.cells, Value.oneCell', Nat.reduceAdd, Nat.reduceSub, Nat.reduceMul, Nat.reduceLeDiff, Int.reduceEq, Nat.reduceEqDiff, drawS, C3Fs20]
                refine stK_abs k2 (by simp) fun h12 g12 u12 => ?_
                simp only [splice] at g12
                simp only [execT_quiet, stT_plain, setT_eq, coreS, Value.cells, Value.oneCell', Nat.reduceAdd, Nat.reduceSub, Nat.reduceMul, Nat.reduceLeDiff, Int.reduceEq, Nat.reduceEqDiff, drawS, C3Fs20]
                refine execT_finE ?_
                simp only [g12, splice, coreS, Value.cells, Value.oneCell', Nat.reduceAdd, Nat.reduceSub, Nat.reduceMul, Nat.reduceLeDiff, Int.reduceEq, Nat.reduceEqDiff, C3Fs20]
                refine ⟨⟨a11, _, _, by rw [pstA, pstC, if_pos hp, if_pos hp, hp], ?_, by rw [pstL, if_pos hp, ins_length]; omega, fun p hp => by have := (O11.lt hp).2; have := y2.size; omega⟩, u12.ext (y2.trans X11) (by omega)⟩
                rw [pstL, if_pos hp, ins, hik]
                have r11 := O11.row
                rw [List.append_assoc] at r11
                exact row_upd r11 u12 (fun p hp => by have := (O11.lt hp).2; omega)
              · simp only [stO_plain, coreS, Value.cells, Value.oneCell', Nat.reduceAdd, Nat.reduceSub, Nat.reduceMul, Nat.reduceLeDiff, Int.reduceEq, Nat.reduceEqDiff, drawS, C3Fs20]
                refine app22e rfl rfl O10 (Nat.le_trans hm8 (Nat.le_trans A9.size x10.size)) (srcROW (hr.ext (y2.trans X10))) (by rw [List.length_drop]; omega) (by omega) fun a11 c11 h11 O11 A11 => ?_
                have X11 := A11.extV O10 X10 hm0
                have k0 := X11.get c0
                have k2 := X11.get c2
                try simp only [execT_quiet, stT_plain, setT_eq, k0, splice, coreS, Value.cells, Value.oneCell', Nat.reduceAdd, Nat.reduceSub, Nat.reduceMul, Nat.reduceLeDiff, Int.reduceEq, Nat.reduceEqDiff, drawS, C3Fs20]
                refine execT_oneE ?_
                simp only [stO_plain, k2, splice, coreS, Value.cells, Value.oneCell', Nat.reduceAdd, Nat.reduceSub, Nat.reduceMul, Nat.reduceLeDiff, Int.reduceEq, Nat.reduceEqDiff, drawS, C3Fs20]
                refine stK_abs k2 (by simp) fun h12 g12 u12 => ?_
                simp only [splice] at g12
                simp only [execT_quiet, stT_plain, setT_eq, coreS, Value.cells, Value.oneCell', Nat.reduceAdd, Nat.reduceSub, Nat.reduceMul, Nat.reduceLeDiff, Int.reduceEq, Nat.reduceEqDiff, drawS, C3Fs20]
                refine execT_finE ?_
                simp only [g12, splice, coreS, Value.cells, Value.oneCell', Nat.reduceAdd, Nat.reduceSub, Nat.reduceMul, Nat.reduceLeDiff, Int.reduceEq, Nat.reduceEqDiff, C3Fs20]
                refine ⟨⟨a11, _, _, by rw [pstA, pstC, if_pos hp, if_pos hp, hp], ?_, by rw [pstL, if_pos hp, ins_length]; omega, fun p hp => by have := (O11.lt hp).2; have := y2.size; omega⟩, u12.ext (y2.trans X11) (by omega)⟩
                rw [pstL, if_pos hp, ins, hik]
                have r11 := O11.row
                rw [List.append_assoc] at r11
                exact row_upd r11 u12 (fun p hp => by have := (O11.lt hp).2; omega)
            · simp only [stO_plain, X10.get c0, coreS, Value.cells, Value.oneCell', Nat.reduceAdd, Nat.reduceSub, Nat.reduceMul, Nat.reduceLeDiff, Int.reduceEq, Nat.reduceEqDiff, drawS, C3Fs20]
              refine ⟨rfl, execT_fork2E ?_ ?_⟩
              · simp only [stO_plain, X10.get c0, coreS, Value.cells, Value.oneCell', Nat.reduceAdd, Nat.reduceSub, Nat.reduceMul, Nat.reduceLeDiff, Int.reduceEq, Nat.reduceEqDiff, drawS, C3Fs20]
                refine ⟨rfl, execT_oneE ?_⟩
                simp only [stO_plain, coreS, Value.cells, Value.oneCell', Nat.reduceAdd, Nat.reduceSub, Nat.reduceMul, Nat.reduceLeDiff, Int.reduceEq, Nat.reduceEqDiff, drawS, C3Fs20]
                refine app22e rfl rfl O10 (Nat.le_trans hm8 (Nat.le_trans A9.size x10.size)) (srcROW (hr.ext (y2.trans X10))) (by rw [List.length_drop]; omega) (by omega) fun a11 c11 h11 O11 A11 => ?_
                have X11 := A11.extV O10 X10 hm0
                have k0 := X11.get c0
                have k2 := X11.get c2
                try simp only [execT_quiet, stT_plain, setT_eq, k0, splice, coreS, Value.cells, Value.oneCell', Nat.reduceAdd, Nat.reduceSub, Nat.reduceMul, Nat.reduceLeDiff, Int.reduceEq, Nat.reduceEqDiff, drawS, C3Fs20]
                refine execT_oneE ?_
                simp only [stO_plain, k2, splice, coreS, Value.cells, Value.oneCell', Nat.reduceAdd, Nat.reduceSub, Nat.reduceMul, Nat.reduceLeDiff, Int.reduceEq, Nat.reduceEqDiff, drawS, C3Fs20]
                refine stK_abs k2 (by simp) fun h12 g12 u12 => ?_
                simp only [splice] at g12
                simp only [execT_quiet, stT_plain, setT_eq, coreS, Value.cells, Value.oneCell', Nat.reduceAdd, Nat.reduceSub, Nat.reduceMul, Nat.reduceLeDiff, Int.reduceEq, Nat.reduceEqDiff, drawS, C3Fs20]
                refine execT_finE ?_
                simp only [g12, splice, coreS, Value.cells, Value.oneCell', Nat.reduceAdd, Nat.reduceSub, Nat.reduceMul, Nat.reduceLeDiff, Int.reduceEq, Nat.reduceEqDiff, C3Fs20]
                refine ⟨⟨a11, _, _, by rw [pstA, pstC, if_pos hp, if_pos hp, hp], ?_, by rw [pstL, if_pos hp, ins_length]; omega, fun p hp => by have := (O11.lt hp).2; have := y2.size; omega⟩, u12.ext (y2.trans X11) (by omega)⟩
                rw [pstL, if_pos hp, ins, hik]
                have r11 := O11.row
                rw [List.append_assoc] at r11
                exact row_upd r11 u12 (fun p hp => by have := (O11.lt hp).2; omega)
              · simp only [stO_plain, coreS, Value.cells, Value.oneCell', Nat.reduceAdd, Nat.reduceSub, Nat.reduceMul, Nat.reduceLeDiff, Int.reduceEq, Nat.reduceEqDiff, drawS, C3Fs20]
                refine app22e rfl rfl O10 (Nat.le_trans hm8 (Nat.le_trans A9.size x10.size)) (srcROW (hr.ext (y2.trans X10))) (by rw [List.length_drop]; omega) (by omega) fun a11 c11 h11 O11 A11 => ?_
                have X11 := A11.extV O10 X10 hm0
                have k0 := X11.get c0
                have k2 := X11.get c2
                try simp only [execT_quiet, stT_plain, setT_eq, k0, splice, coreS, Value.cells, Value.oneCell', Nat.reduceAdd, Nat.reduceSub, Nat.reduceMul, Nat.reduceLeDiff, Int.reduceEq, Nat.reduceEqDiff, drawS, C3Fs20]
                refine execT_oneE ?_
                simp only [stO_plain, k2, splice, coreS, Value.cells, Value.oneCell', Nat.reduceAdd, Nat.reduceSub, Nat.reduceMul, Nat.reduceLeDiff, Int.reduceEq, Nat.reduceEqDiff, drawS, C3Fs20]
                refine stK_abs k2 (by simp) fun h12 g12 u12 => ?_
                simp only [splice] at g12
                simp only [execT_quiet, stT_plain, setT_eq, coreS, Value.cells, Value.oneCell', Nat.reduceAdd, Nat.reduceSub, Nat.reduceMul, Nat.reduceLeDiff, Int.reduceEq, Nat.reduceEqDiff, drawS, C3Fs20]
                refine execT_finE ?_
                simp only [g12, splice, coreS, Value.cells, Value.oneCell', Nat.reduceAdd, Nat.reduceSub, Nat.reduceMul, Nat.reduceLeDiff, Int.reduceEq, Nat.reduceEqDiff, C3Fs20]
                refine ⟨⟨a11, _, _, by rw [pstA, pstC, if_pos hp, if_pos hp, hp], ?_, by rw [pstL, if_pos hp, ins_length]; omega, fun p hp => by have := (O11.lt hp).2; have := y2.size; omega⟩, u12.ext (y2.trans X11) (by omega)⟩
                rw [pstL, if_pos hp, ins, hik]
                have r11 := O11.row
                rw [List.append_assoc] at r11
                exact row_upd r11 u12 (fun p hp => by have := (O11.lt hp).2; omega)
            · simp only [stO_plain, coreS, Value.cells, Value.oneCell', Nat.reduceAdd, Nat.reduceSub, Nat.reduceMul, Nat.reduceLeDiff, Int.reduceEq, Nat.reduceEqDiff, drawS, C3Fs20]
              refine app22e rfl rfl O10 (Nat.le_trans hm8 (Nat.le_trans A9.size x10.size)) (srcROW (hr.ext (y2.trans X10))) (by rw [List.length_drop]; omega) (by omega) fun a11 c11 h11 O11 A11 => ?_
              have X11 := A11.extV O10 X10 hm0
              have k0 := X11.get c0
              have k2 := X11.get c2
              try simp only [execT_quiet, stT_plain, setT_eq, k0, splice, coreS, Value.cells, Value.oneCell', Nat.reduceAdd, Nat.reduceSub, Nat.reduceMul, Nat.reduceLeDiff, Int.reduceEq, Nat.reduceEqDiff, drawS, C3Fs20]
              refine execT_oneE ?_
              simp only [stO_plain, k2, splice, coreS, Value.cells, Value.oneCell', Nat.reduceAdd, Nat.reduceSub, Nat.reduceMul, Nat.reduceLeDiff, Int.reduceEq, Nat.reduceEqDiff, drawS, C3Fs20]
              refine stK_abs k2 (by simp) fun h12 g12 u12 => ?_
              simp only [splice] at g12
              simp only [execT_quiet, stT_plain, setT_eq, coreS, Value.cells, Value.oneCell', Nat.reduceAdd, Nat.reduceSub, Nat.reduceMul, Nat.reduceLeDiff, Int.reduceEq, Nat.reduceEqDiff, drawS, C3Fs20]
              refine execT_finE ?_
              simp only [g12, splice, coreS, Value.cells, Value.oneCell', Nat.reduceAdd, Nat.reduceSub, Nat.reduceMul, Nat.reduceLeDiff, Int.reduceEq, Nat.reduceEqDiff, C3Fs20]
              refine ⟨⟨a11, _, _, by rw [pstA, pstC, if_pos hp, if_pos hp, hp], ?_, by rw [pstL, if_pos hp, ins_length]; omega, fun p hp => by have := (O11.lt hp).2; have := y2.size; omega⟩, u12.ext (y2.trans X11) (by omega)⟩
              rw [pstL, if_pos hp, ins, hik]
              have r11 := O11.row
              rw [List.append_assoc] at r11
              exact row_upd r11 u12 (fun p hp => by have := (O11.lt hp).2; omega)
        · simp only [stO_plain, splice, coreS, Value.cells, Value.oneCell', Nat.reduceAdd, Nat.reduceSub, Nat.reduceMul, Nat.reduceLeDiff, Int.reduceEq, Nat.reduceEqDiff, drawS, C3Fs20]
          refine ⟨by omega, (Ext.refl h4).push _, ?_⟩
          refine execT_keep fun h5 x5 => ?_
          simp only [stO_plain, splice, coreS, Value.cells, Value.oneCell', Nat.reduceAdd, Nat.reduceSub, Nat.reduceMul, Nat.reduceLeDiff, Int.reduceEq, Nat.reduceEqDiff, drawS, C3Fs20]
          refine ⟨by omega, (Ext.refl h5).push _, ?_⟩
          · have hm0 : h3.size ≤ h5.size := (x4.trans x5.of_push).size
            refine execT_keep fun h6 x6 => ?_
            simp only [stO_plain, coreS, Value.cells, Value.oneCell', Nat.reduceAdd, Nat.reduceSub, Nat.reduceMul, Nat.reduceLeDiff, Int.reduceEq, Nat.reduceEqDiff, drawS, C3Fs20]
            refine apf22 rfl rfl (x6.get push_new) (hIk.ext ((x4.trans x5.of_push).trans x6.of_push)) hlk (by omega) fun a6 c6 h7 O6 x7 => ⟨x7, ?_⟩
            refine execT_one fun h8 x8 => ?_
            simp only [stO_plain, coreS, Value.cells, Value.oneCell', Nat.reduceAdd, Nat.reduceSub, Nat.reduceMul, Nat.reduceLeDiff, Int.reduceEq, Nat.reduceEqDiff, drawS, C3Fs20]
            have hb8 := x8.get (x7.get (x6.get (push_old (x5.get (push_new (h := h4))))))
            have O8 := O6.ext x8
            have xb := (((x4.trans x5.of_push).trans x6.of_push).trans x7).trans x8
            have hm8 : h5.size ≤ h8.size := by
              have z1 := x5.size
              have z2 := x6.size
              have z3 := x7.size
              have z4 := x8.size
              try simp only [push_size] at z1
              try simp only [push_size] at z2
              try simp only [push_size] at z3
              try simp only [push_size] at z4
              omega
            refine app22e (ys := [e]) rfl rfl O8 hm8 (Row.block (by simpa [ensV, enV] using hb8)) (by rfl) (by omega) fun a9 c9 h9 O9 A9 => ?_
            have X9 := A9.extV O8 xb hm0
            simp only [execT_quiet, stT_plain, setT_eq, coreS, Value.cells, Value.oneCell', Nat.reduceAdd, Nat.reduceSub, Nat.reduceMul, Nat.reduceLeDiff, Int.reduceEq, Nat.reduceEqDiff, drawS, C3Fs20]
            refine execT_fin fun h10 x10 => ?_
            have X10 := X9.trans x10
            have O10 := O9.ext x10
            have hs10 := X10.size
            simp only [coreS, Value.cells, Value.oneCell', Nat.reduceAdd, Nat.reduceSub, Nat.reduceMul, Nat.reduceLeDiff, Int.reduceEq, Nat.reduceEqDiff, C3Fs20]
            refine WP_tree (by kernel_rfl) sta_eq (.pure 0 (.pure 2 (.quiet 4 (.quiet 5 (.quiet 6 (.quiet 7 (.quiet 8 (.fork3 1 3 9 true true false (.fork2 3 9 true false (.one 9 (.quiet 10 (.one 11 (.quiet 12 (.fin))))) (.quiet 3 (.quiet 10 (.one 11 (.quiet 12 (.fin)))))) (.fork2 1 9 true false (.one 9 (.quiet 10 (.one 11 (.quiet 12 (.fin))))) (.quiet 1 (.quiet 10 (.one 11 (.quiet 12 (.fin)))))) (.quiet 1 (.quiet 3 (.quiet 10 (.one 11 (.quiet 12 (.fin)))))))))))))) (by kernel_rfl) rfl (by kernel_rfl) ?_
            simp only [execT_quiet, stT_plain, execT_pure, stTp_plain, setT_eq, X10.get c0, t6, coreS, Value.cells, Value.oneCell', Nat.reduceAdd, Nat.reduceSub, Nat.reduceMul, Nat.reduceLeDiff, Int.reduceEq, Nat.reduceEqDiff, drawS, C3Fs20]
            refine ⟨by omega, by omega, by omega, by omega, ?_⟩
            refine execT_fork3E ?_ ?_ ?_
            · simp only [stO_plain, X10.get c0, coreS, Value.cells, Value.oneCell', Nat.reduceAdd, Nat.reduceSub, Nat.reduceMul, Nat.reduceLeDiff, Int.reduceEq, Nat.reduceEqDiff, drawS, C3Fs20]
              refine ⟨rfl, execT_fork2E ?_ ?_⟩
              · simp only [stO_plain, X10.get c0, coreS, Value.cells, Value.oneCell', Nat.reduceAdd, Nat.reduceSub, Nat.reduceMul, Nat.reduceLeDiff, Int.reduceEq, Nat.reduceEqDiff, drawS, C3Fs20]
                refine ⟨rfl, execT_oneE ?_⟩
                simp only [stO_plain, coreS, Value.cells, Value.oneCell', Nat.reduceAdd, Nat.reduceSub, Nat.reduceMul, Nat.reduceLeDiff, Int.reduceEq, Nat.reduceEqDiff, drawS, C3Fs20]
                refine app22e rfl rfl O10 (Nat.le_trans hm8 (Nat.le_trans A9.size x10.size)) (srcROW (hr.ext (y2.trans X10))) (by rw [List.length_drop]; omega) (by omega) fun a11 c11 h11 O11 A11 => ?_
                have X11 := A11.extV O10 X10 hm0
                have k0 := X11.get c0
                have k2 := X11.get c2
                try simp only [execT_quiet, stT_plain, setT_eq, k0, splice, coreS, Value.cells, Value.oneCell', Nat.reduceAdd, Nat.reduceSub, Nat.reduceMul, Nat.reduceLeDiff, Int.reduceEq, Nat.reduceEqDiff, drawS, C3Fs20]
                refine execT_oneE ?_
                simp only [stO_plain, k2, splice, coreS, Value.cells, Value.oneCell', Nat.reduceAdd, Nat.reduceSub, Nat.reduceMul, Nat.reduceLeDiff, Int.reduceEq, Nat.reduceEqDiff, drawS, C3Fs20]
                refine stK_abs k2 (by simp) fun h12 g12 u12 => ?_
                simp only [splice] at g12
                simp only [execT_quiet, stT_plain, setT_eq, coreS, Value.cells, Value.oneCell', Nat.reduceAdd, Nat.reduceSub, Nat.reduceMul, Nat.reduceLeDiff, Int.reduceEq, Nat.reduceEqDiff, drawS, C3Fs20]
                refine execT_finE ?_
                simp only [g12, splice, coreS, Value.cells, Value.oneCell', Nat.reduceAdd, Nat.reduceSub, Nat.reduceMul, Nat.reduceLeDiff, Int.reduceEq, Nat.reduceEqDiff, C3Fs20]
                refine ⟨⟨a11, _, _, by rw [pstA, pstC, if_pos hp, if_pos hp, hp], ?_, by rw [pstL, if_pos hp, ins_length]; omega, fun p hp => by have := (O11.lt hp).2; have := y2.size; omega⟩, u12.ext (y2.trans X11) (by omega)⟩
                rw [pstL, if_pos hp, ins, hik]
                have r11 := O11.row
                rw [List.append_assoc] at r11
                exact row_upd r11 u12 (fun p hp => by have := (O11.lt hp).2; omega)
              · simp only [stO_plain, coreS, Value.cells, Value.oneCell', Nat.reduceAdd, Nat.reduceSub, Nat.reduceMul, Nat.reduceLeDiff, Int.reduceEq, Nat.reduceEqDiff, drawS, C3Fs20]
                refine app22e rfl rfl O10 (Nat.le_trans hm8 (Nat.le_trans A9.size x10.size)) (srcROW (hr.ext (y2.trans X10))) (by rw [List.length_drop]; omega) (by omega) fun a11 c11 h11 O11 A11 => ?_
                have X11 := A11.extV O10 X10 hm0
                have k0 := X11.get c0
                have k2 := X11.get c2
                try simp only [execT_quiet, stT_plain, setT_eq, k0, splice, coreS, Value.cells, Value.oneCell', Nat.reduceAdd, Nat.reduceSub, Nat.reduceMul, Nat.reduceLeDiff, Int.reduceEq, Nat.reduceEqDiff, drawS, C3Fs20]
                refine execT_oneE ?_
                simp only [stO_plain, k2, splice, coreS, Value.cells, Value.oneCell', Nat.reduceAdd, Nat.reduceSub, Nat.reduceMul, Nat.reduceLeDiff, Int.reduceEq, Nat.reduceEqDiff, drawS, C3Fs20]
                refine stK_abs k2 (by simp) fun h12 g12 u12 => ?_
                simp only [splice] at g12
                simp only [execT_quiet, stT_plain, setT_eq, coreS, Value.cells, Value.oneCell', Nat.reduceAdd, Nat.reduceSub, Nat.reduceMul, Nat.reduceLeDiff, Int.reduceEq, Nat.reduceEqDiff, drawS, C3Fs20]
                refine execT_finE ?_
                simp only [g12, splice, coreS, Value.cells, Value.oneCell', Nat.reduceAdd, Nat.reduceSub, Nat.reduceMul, Nat.reduceLeDiff, Int.reduceEq, Nat.reduceEqDiff, C3Fs20]
                refine ⟨⟨a11, _, _, by rw [pstA, pstC, if_pos hp, if_pos hp, hp], ?_, by rw [pstL, if_pos hp, ins_length]; omega, fun p hp => by have := (O11.lt hp).2; have := y2.size; omega⟩, u12.ext (y2.trans X11) (by omega)⟩
                rw [pstL, if_pos hp, ins, hik]
                have r11 := O11.row
                rw [List.append_assoc] at r11
                exact row_upd r11 u12 (fun p hp => by have := (O11.lt hp).2; omega)
            · simp only [stO_plain, X10.get c0, coreS, Value.cells, Value.oneCell', Nat.reduceAdd, Nat.reduceSub, Nat.reduceMul, Nat.reduceLeDiff, Int.reduceEq, Nat.reduceEqDiff, drawS, C3Fs20]
              refine ⟨rfl, execT_fork2E ?_ ?_⟩
              · simp only [stO_plain, X10.get c0, coreS, Value.cells, Value.oneCell', Nat.reduceAdd, Nat.reduceSub, Nat.reduceMul, Nat.reduceLeDiff, Int.reduceEq, Nat.reduceEqDiff, drawS, C3Fs20]
                refine ⟨rfl, execT_oneE ?_⟩
                simp only [stO_plain, coreS, Value.cells, Value.oneCell', Nat.reduceAdd, Nat.reduceSub, Nat.reduceMul, Nat.reduceLeDiff, Int.reduceEq, Nat.reduceEqDiff, drawS, C3Fs20]
                refine app22e rfl rfl O10 (Nat.le_trans hm8 (Nat.le_trans A9.size x10.size)) (srcROW (hr.ext (y2.trans X10))) (by rw [List.length_drop]; omega) (by omega) fun a11 c11 h11 O11 A11 => ?_
                have X11 := A11.extV O10 X10 hm0
                have k0 := X11.get c0
                have k2 := X11.get c2
                try simp only [execT_quiet, stT_plain, setT_eq, k0, splice, coreS, Value.cells, Value.oneCell', Nat.reduceAdd, Nat.reduceSub, Nat.reduceMul, Nat.reduceLeDiff, Int.reduceEq, Nat.reduceEqDiff, drawS, C3Fs20]
                refine execT_oneE ?_
                simp only [stO_plain, k2, splice, coreS, Value.cells, Value.oneCell', Nat.reduceAdd, Nat.reduceSub, Nat.reduceMul, Nat.reduceLeDiff, Int.reduceEq, Nat.reduceEqDiff, drawS, C3Fs20]
                refine stK_abs k2 (by simp) fun h12 g12 u12 => ?_
                simp only [splice] at g12
                simp only [execT_quiet, stT_plain, setT_eq, coreS, Value.cells, Value.oneCell', Nat.reduceAdd, Nat.reduceSub, Nat.reduceMul, Nat.reduceLeDiff, Int.reduceEq, Nat.reduceEqDiff, drawS, C3Fs20]
                refine execT_finE ?_
                simp only [g12, splice, coreS, Value.cells, Value.oneCell', Nat.reduceAdd, Nat.reduceSub, Nat.reduceMul, Nat.reduceLeDiff, Int.reduceEq, Nat.reduceEqDiff, C3Fs20]
                refine ⟨⟨a11, _, _, by rw [pstA, pstC, if_pos hp, if_pos hp, hp], ?_, by rw [pstL, if_pos hp, ins_length]; omega, fun p hp => by have := (O11.lt hp).2; have := y2.size; omega⟩, u12.ext (y2.trans X11) (by omega)⟩
                rw [pstL, if_pos hp, ins, hik]
                have r11 := O11.row
                rw [List.append_assoc] at r11
                exact row_upd r11 u12 (fun p hp => by have := (O11.lt hp).2; omega)
              · simp only [stO_plain, coreS, Value.cells, Value.oneCell', Nat.reduceAdd, Nat.reduceSub, Nat.reduceMul, Nat.reduceLeDiff, Int.reduceEq, Nat.reduceEqDiff, drawS, C3Fs20]
                refine app22e rfl rfl O10 (Nat.le_trans hm8 (Nat.le_trans A9.size x10.size)) (srcROW (hr.ext (y2.trans X10))) (by rw [List.length_drop]; omega) (by omega) fun a11 c11 h11 O11 A11 => ?_
                have X11 := A11.extV O10 X10 hm0
                have k0 := X11.get c0
                have k2 := X11.get c2
                try simp only [execT_quiet, stT_plain, setT_eq, k0, splice, coreS, Value.cells, Value.oneCell', Nat.reduceAdd, Nat.reduceSub, Nat.reduceMul, Nat.reduceLeDiff, Int.reduceEq, Nat.reduceEqDiff, drawS, C3Fs20]
                refine execT_oneE ?_
                simp only [stO_plain, k2, splice, coreS, Value.cells, Value.oneCell', Nat.reduceAdd, Nat.reduceSub, Nat.reduceMul, Nat.reduceLeDiff, Int.reduceEq, Nat.reduceEqDiff, drawS, C3Fs20]
                refine stK_abs k2 (by simp) fun h12 g12 u12 => ?_
                simp only [splice] at g12
                simp only [execT_quiet, stT_plain, setT_eq, coreS, Value.cells, Value.oneCell', Nat.reduceAdd, Nat.reduceSub, Nat.reduceMul, Nat.reduceLeDiff, Int.reduceEq, Nat.reduceEqDiff, drawS, C3Fs20]
                refine execT_finE ?_
                simp only [g12, splice, coreS, Value.cells, Value.oneCell', Nat.reduceAdd, Nat.reduceSub, Nat.reduceMul, Nat.reduceLeDiff, Int.reduceEq, Nat.reduceEqDiff, C3Fs20]
                refine ⟨⟨a11, _, _, by rw [pstA, pstC, if_pos hp, if_pos hp, hp], ?_, by rw [pstL, if_pos hp, ins_length]; omega, fun p hp => by have := (O11.lt hp).2; have := y2.size; omega⟩, u12.ext (y2.trans X11) (by omega)⟩
                rw [pstL, if_pos hp, ins, hik]
                have r11 := O11.row
                rw [List.append_assoc] at r11
                exact row_upd r11 u12 (fun p hp => by have := (O11.lt hp).2; omega)
            · simp only [stO_plain, coreS, Value.cells, Value.oneCell', Nat.reduceAdd, Nat.reduceSub, Nat.reduceMul, Nat.reduceLeDiff, Int.reduceEq, Nat.reduceEqDiff, drawS, C3Fs20]
              refine app22e rfl rfl O10 (Nat.le_trans hm8 (Nat.le_trans A9.size x10.size)) (srcROW (hr.ext (y2.trans X10))) (by rw [List.length_drop]; omega) (by omega) fun a11 c11 h11 O11 A11 => ?_
              have X11 := A11.extV O10 X10 hm0
              have k0 := X11.get c0
              have k2 := X11.get c2
              try simp only [execT_quiet, stT_plain, setT_eq, k0, splice, coreS, Value.cells, Value.oneCell', Nat.reduceAdd, Nat.reduceSub, Nat.reduceMul, Nat.reduceLeDiff, Int.reduceEq, Nat.reduceEqDiff, drawS, C3Fs20]
              refine execT_oneE ?_
              simp only [stO_plain, k2, splice, coreS, Value.cells, Value.oneCell', Nat.reduceAdd, Nat.reduceSub, Nat.reduceMul, Nat.reduceLeDiff, Int.reduceEq, Nat.reduceEqDiff, drawS, C3Fs20]
              refine stK_abs k2 (by simp) fun h12 g12 u12 => ?_
              simp only [splice] at g12
              simp only [execT_quiet, stT_plain, setT_eq, coreS, Value.cells, Value.oneCell', Nat.reduceAdd, Nat.reduceSub, Nat.reduceMul, Nat.reduceLeDiff, Int.reduceEq, Nat.reduceEqDiff, drawS, C3Fs20]
              refine execT_finE ?_
              simp only [g12, splice, coreS, Value.cells, Value.oneCell', Nat.reduceAdd, Nat.reduceSub, Nat.reduceMul, Nat.reduceLeDiff, Int.reduceEq, Nat.reduceEqDiff, C3Fs20]
              refine ⟨⟨a11, _, _, by rw [pstA, pstC, if_pos hp, if_pos hp, hp], ?_, by rw [pstL, if_pos hp, ins_length]; omega, fun p hp => by have := (O11.lt hp).2; have := y2.size; omega⟩, u12.ext (y2.trans X11) (by omega)⟩
              rw [pstL, if_pos hp, ins, hik]
              have r11 := O11.row
              rw [List.append_assoc] at r11
              exact row_upd r11 u12 (fun p hp => by have := (O11.lt hp).2; omega)
      · have hlt : ¬ (k : Int) < n := by omega
        simp only [hlt, hg, c0, c1, gq_none, decide_false, Int.toNat_natCast, hvK_eq, coreS, Value.cells, Value.oneCell', Nat.reduceAdd, Nat.reduceSub, Nat.reduceMul, Nat.reduceLeDiff, Int.reduceEq, Nat.reduceEqDiff, drawS, C3Fs20]
        have hik : insK es e = k := insK_at (by omega) hno fun hh => absurd hh hi
        refine WP_tree (by kernel_rfl) sta_ext (.quiet 1 (.quiet 2 (.quiet 3 (.quiet 4 (.quiet 6 (.fork 0 7 (.fork 5 7 (.keep 7 (.one 8 (.quiet 9 (.fin)))) (.keep 5 (.one 8 (.quiet 9 (.fin))))) (.keep 0 (.keep 5 (.one 8 (.quiet 9 (.fin))))))))))) (by kernel_rfl) rfl (by kernel_rfl) ?_
        have t1 : ((k : Int) - ((0 : Nat) : Int)).toNat = k := by omega
        simp only [execT_quiet, stT_plain, setT_eq, c0, c1, coreS, Value.cells, Value.oneCell', Nat.reduceAdd, Nat.reduceSub, Nat.reduceMul, Nat.reduceLeDiff, Int.reduceEq, Nat.reduceEqDiff, drawS, C3Fs20]
        simp only [eltP_zero, ite_self, t1, Nat.zero_mul, Nat.add_zero]
        have hIk : Row h3 a (ensV (es.take k)) := by
          have := (hr.ext y2).take (k * 4)
          rwa [ensV_take] at this
        have t6 : ((n : Int) - (k : Int)).toNat = n - k := by omega
        have hs2 := lt_of_get c2
        have srcROW : ∀ {hh : Eng.Heap}, Row hh a (ensV es) → Row hh (if (c : Int) = (k : Int) then a else eltP a (k * 4)) (ensV (es.drop k)) := fun {hh} H => by
          split
          · rw [List.drop_of_length_le (by omega)]; exact .inl rfl
          · have := H.sub (k * 4) ((n - k) * 4) (by rw [ensV_length]; omega)
            rw [ensV_drop, List.take_of_length_le (by rw [ensV_length, List.length_drop]; omega)] at this
            first | exact this | (rw [eltP_some] at this; exact this)
        have hlk : (es.take k).length = k := by rw [List.length_take]; omega
        refine ⟨by omega, by omega, by omega, by omega, ?_⟩
        refine execT_fork fun h4 x4 => ⟨?_, ?_⟩
        · simp only [stO_plain, splice, coreS, Value.cells, Value.oneCell', Nat.reduceAdd, Nat.reduceSub, Nat.reduceMul, Nat.reduceLeDiff, Int.reduceEq, Nat.reduceEqDiff, drawS, C3Fs20]
          refine ⟨by omega, (Ext.refl h4).push _, ?_⟩
          have hm0 : h3.size ≤ h4.size := x4.size
          refine execT_fork fun h5 x5 => ⟨?_, ?_⟩
          · simp only [stO_plain, coreS, Value.cells, Value.oneCell', Nat.reduceAdd, Nat.reduceSub, Nat.reduceMul, Nat.reduceLeDiff, Int.reduceEq, Nat.reduceEqDiff, drawS, C3Fs20]
            refine apf22 rfl rfl (x5.get push_new) (hIk.ext (x4.trans x5.of_push)) hlk (by omega) fun a6 c6 h6 O6 x6 => ⟨x6, ?_⟩
            refine execT_keep fun h7 x7 => ?_
            simp only [stO_plain, splice, coreS, Value.cells, Value.oneCell', Nat.reduceAdd, Nat.reduceSub, Nat.reduceMul, Nat.reduceLeDiff, Int.reduceEq, Nat.reduceEqDiff, drawS, C3Fs20]
            refine ⟨by omega, (Ext.refl h7).push _, ?_⟩
            refine execT_one fun h8 x8 => ?_
            simp only [stO_plain, coreS, Value.cells, Value.oneCell', Nat.reduceAdd, Nat.reduceSub, Nat.reduceMul, Nat.reduceLeDiff, Int.reduceEq, Nat.reduceEqDiff, drawS, C3Fs20]
            have hb8 := x8.get (push_new (h := h7))
            have O8 := ((O6.ext x7).ext ((Ext.refl h7).push _)).ext x8
            have xb := ((((x4.trans x5.of_push).trans x6).trans x7).push _).trans x8
            have hm8 : h4.size ≤ h8.size := by
              have z1 := x5.size
              have z2 := x6.size
              have z3 := x7.size
              have z4 := x8.size
              try simp only [push_size] at z1
              try simp only [push_size] at z2
              try simp only [push_size] at z3
              try simp only [push_size] at z4
              omega
            refine app22e (ys := [e]) rfl rfl O8 hm8 (Row.block (by simpa [ensV, enV] using hb8)) (by rfl) (by omega) fun a9 c9 h9 O9 A9 => ?_
            have X9 := A9.extV O8 xb hm0
            simp only [execT_quiet, stT_plain, setT_eq, coreS, Value.cells, Value.oneCell', Nat.reduceAdd, Nat.reduceSub, Nat.reduceMul, Nat.reduceLeDiff, Int.reduceEq, Nat.reduceEqDiff, drawS, C3Fs20]
            refine execT_fin fun h10 x10 => ?_
            have X10 := X9.trans x10
            have O10 := O9.ext x10
            have hs10 := X10.size
            simp only [coreS, Value.cells, Value.oneCell', Nat.reduceAdd, Nat.reduceSub, Nat.reduceMul, Nat.reduceLeDiff, Int.reduceEq, Nat.reduceEqDiff, C3Fs20]
            refine WP_tree (by kernel_rfl) sta_eq (.pure 0 (.pure 2 (.quiet 4 (.quiet 5 (.quiet 6 (.quiet 7 (.quiet 8 (.fork3 1 3 9 true true false (.fork2 3 9 true false (.one 9 (.quiet 10 (.one 11 (.quiet 12 (.fin))))) (.quiet 3 (.quiet 10 (.one 11 (.quiet 12 (.fin)))))) (.fork2 1 9 true false (.one 9 (.quiet 10 (.one 11 (.quiet 12 (.fin))))) (.quiet 1 (.quiet 10 (.one 11 (.quiet 12 (.fin)))))) (.quiet 1 (.quiet 3 (.quiet 10 (.one 11 (.quiet 12 (.fin)))))))))))))) (by kernel_rfl) rfl (by kernel_rfl) ?_
            simp only [execT_quiet, stT_plain, execT_pure, stTp_plain, setT_eq, X10.get c0, t6, coreS, Value.cells, Value.oneCell', Nat.reduceAdd, Nat.reduceSub, Nat.reduceMul, Nat.reduceLeDiff, Int.reduceEq, Nat.reduceEqDiff, drawS, C3Fs20]
            refine ⟨by omega, by omega, by omega, by omega, ?_⟩
            refine execT_fork3E ?_ ?_ ?_
            · simp only [stO_plain, X10.get c0, coreS, Value.cells, Value.oneCell', Nat.reduceAdd, Nat.reduceSub, Nat.reduceMul, Nat.reduceLeDiff, Int.reduceEq, Nat.reduceEqDiff, drawS, C3Fs20]
              refine ⟨rfl, execT_fork2E ?_ ?_⟩
              · simp only [stO_plain, X10.get c0, coreS, Value.cells, Value.oneCell', Nat.reduceAdd, Nat.reduceSub, Nat.reduceMul, Nat.reduceLeDiff, Int.reduceEq, Nat.reduceEqDiff, drawS, C3Fs20]
                refine ⟨rfl, execT_oneE ?_⟩
                simp only [stO_plain, coreS, Value.cells, Value.oneCell', Nat.reduceAdd, Nat.reduceSub, Nat.reduceMul, Nat.reduceLeDiff, Int.reduceEq, Nat.reduceEqDiff, drawS, C3Fs20]
                refine app22e rfl rfl O10 (Nat.le_trans hm8 (Nat.le_trans A9.size x10.size)) (srcROW (hr.ext (y2.trans X10))) (by rw [List.length_drop]; omega) (by omega) fun a11 c11 h11 O11 A11 => ?_
                have X11 := A11.extV O10 X10 hm0
                have k0 := X11.get c0
                have k2 := X11.get c2
                try simp only [execT_quiet, stT_plain, setT_eq, k0, splice, coreS, Value.cells, Value.oneCell', Nat.reduceAdd, Nat.reduceSub, Nat.reduceMul, Nat.reduceLeDiff, Int.reduceEq, Nat.reduceEqDiff, drawS, C3Fs20]
                refine execT_oneE ?_
                simp only [stO_plain, k2, splice, coreS, Value.cells, Value.oneCell', Nat.reduceAdd, Nat.reduceSub, Nat.reduceMul, Nat.reduceLeDiff, Int.reduceEq, Nat.reduceEqDiff, drawS, C3Fs20]
                refine stK_abs k2 (by simp) fun h12 g12 u12 => ?_
                simp only [splice] at g12
                simp only [execT_quiet, stT_plain, setT_eq, coreS, Value.cells, Value.oneCell', Nat.reduceAdd, Nat.reduceSub, Nat.reduceMul, Nat.reduceLeDiff, Int.reduceEq, Nat.reduceEqDiff, drawS, C3Fs20]
                refine execT_finE ?_
                simp only [g12, splice, coreS, Value.cells, Value.oneCell', Nat.reduceAdd, Nat.reduceSub, Nat.reduceMul, Nat.reduceLeDiff, Int.reduceEq, Nat.reduceEqDiff, C3Fs20]
                refine ⟨⟨a11, _, _, by rw [pstA, pstC, if_pos hp, if_pos hp, hp], ?_, by rw [pstL, if_pos hp, ins_length]; omega, fun p hp => by have := (O11.lt hp).2; have := y2.size; omega⟩, u12.ext (y2.trans X11) (by omega)⟩
                rw [pstL, if_pos hp, ins, hik]
                have r11 := O11.row
                rw [List.append_assoc] at r11
                exact row_upd r11 u12 (fun p hp => by have := (O11.lt hp).2; omega)
              · simp only [stO_plain, coreS, Value.cells, Value.oneCell', Nat.reduceAdd, Nat.reduceSub, Nat.reduceMul, Nat.reduceLeDiff, Int.reduceEq, Nat.reduceEqDiff, drawS, C3Fs20]
                refine app22e rfl rfl O10 (Nat.le_trans hm8 (Nat.le_trans A9.size x10.size)) (srcROW (hr.ext (y2.trans X10))) (by rw [List.length_drop]; omega) (by omega) fun a11 c11 h11 O11 A11 => ?_
                have X11 := A11.extV O10 X10 hm0
                have k0 := X11.get c0
                have k2 := X11.get c2
                try simp only [execT_quiet, stT_plain, setT_eq, k0, splice, coreS, Value.cells, Value.oneCell', Nat.reduceAdd, Nat.reduceSub, Nat.reduceMul, Nat.reduceLeDiff, Int.reduceEq, Nat.reduceEqDiff, drawS, C3Fs20]
                refine execT_oneE ?_
                simp only [stO_plain, k2, splice, coreS, Value.cells, Value.oneCell', Nat.reduceAdd, Nat.reduceSub, Nat.reduceMul, Nat.reduceLeDiff, Int.reduceEq, Nat.reduceEqDiff, drawS, C3Fs20]
                refine stK_abs k2 (by simp) fun h12 g12 u12 => ?_
                simp only [splice] at g12
                simp only [execT_quiet, stT_plain, setT_eq, coreS, Value.cells, Value.oneCell', Nat.reduceAdd, Nat.reduceSub, Nat.reduceMul, Nat.reduceLeDiff, Int.reduceEq, Nat.reduceEqDiff, drawS, C3Fs20]
                refine execT_finE ?_
                simp only [g12, splice, coreS, Value.cells, Value.oneCell', Nat.reduceAdd, Nat.reduceSub, Nat.reduceMul, Nat.reduceLeDiff, Int.reduceEq, Nat.reduceEqDiff, C3Fs20]
                refine ⟨⟨a11, _, _, by rw [pstA, pstC, if_pos hp, if_pos hp, hp], ?_, by rw [pstL, if_pos hp, ins_length]; omega, fun p hp => by have := (O11.lt hp).2; have := y2.size; omega⟩, u12.ext (y2.trans X11) (by omega)⟩
                rw [pstL, if_pos hp, ins, hik]
                have r11 := O11.row
                rw [List.append_assoc] at r11
                exact row_upd r11 u12 (fun p hp => by have := (O11.lt hp).2; omega)
            · simp only [stO_plain, X10.get c0, coreS, Value.cells, Value.oneCell', Nat.reduceAdd, Nat.reduceSub, Nat.reduceMul, Nat.reduceLeDiff, Int.reduceEq, Nat.reduceEqDiff, drawS, C3Fs20]
              refine ⟨rfl, execT_fork2E ?_ ?_⟩
              · simp only [stO_plain, X10.get c0, coreS, Value.cells, Value.oneCell', Nat.reduceAdd, Nat.reduceSub, Nat.reduceMul, Nat.reduceLeDiff, Int.reduceEq, Nat.reduceEqDiff, drawS, C3Fs20]
                refine ⟨rfl, execT_oneE ?_⟩
                simp only [stO_plain, coreS, Value.cells, Value.oneCell', Nat.reduceAdd, Nat.reduceSub, Nat.reduceMul, Nat.reduceLeDiff, Int.reduceEq, Nat.reduceEqDiff, drawS, C3Fs20]
                refine app22e rfl rfl O10 (Nat.le_trans hm8 (Nat.le_trans A9.size x10.size)) (srcROW (hr.ext (y2.trans X10))) (by rw [List.length_drop]; omega) (by omega) fun a11 c11 h11 O11 A11 => ?_
                have X11 := A11.extV O10 X10 hm0
                have k0 := X11.get c0
                have k2 := X11.get c2
                try simp only [execT_quiet, stT_plain, setT_eq, k0, splice, coreS, Value.cells, Value.oneCell', Nat.reduceAdd, Nat.reduceSub, Nat.reduceMul, Nat.reduceLeDiff, Int.reduceEq, Nat.reduceEqDiff, drawS, C3Fs20]
                refine execT_oneE ?_
                simp only [stO_plain, k2, splice, coreS, Value.cells, Value.oneCell', Nat.reduceAdd, Nat.reduceSub, Nat.reduceMul, Nat.reduceLeDiff, Int.reduceEq, Nat.reduceEqDiff, drawS, C3Fs20]
                refine stK_abs k2 (by simp) fun h12 g12 u12 => ?_
                simp only [splice] at g12
                simp only [execT_quiet, stT_plain, setT_eq, coreS, Value.cells, Value.oneCell', Nat.reduceAdd, Nat.reduceSub, Nat.reduceMul, Nat.reduceLeDiff, Int.reduceEq, Nat.reduceEqDiff, drawS, C3Fs20]
                refine execT_finE ?_
                simp only [g12, splice, coreS, Value.cells, Value.oneCell', Nat.reduceAdd, Nat.reduceSub, Nat.reduceMul, Nat.reduceLeDiff, Int.reduceEq, Nat.reduceEqDiff, C3Fs20]
                refine ⟨⟨a11, _, _, by rw [pstA, pstC, if_pos hp, if_pos hp, hp], ?_, by rw [pstL, if_pos hp, ins_length]; omega, fun p hp => by have := (O11.lt hp).2; have := y2.size; omega⟩, u12.ext (y2.trans X11) (by omega)⟩
                rw [pstL, if_pos hp, ins, hik]
                have r11 := O11.row
                rw [List.append_assoc] at r11
                exact row_upd r11 u12 (fun p hp => by have := (O11.lt hp).2; omega)
              · simp only [stO_plain, coreS, Value.cells, Value.oneCell', Nat.reduceAdd, Nat.reduceSub, Nat.reduceMul, Nat.reduceLeDiff, Int.reduceEq, Nat.reduceEqDiff, drawS, C3Fs20]
                refine app22e rfl rfl O10 (Nat.le_trans hm8 (Nat.le_trans A9.size x10.size)) (srcROW (hr.ext (y2.trans X10))) (by rw [List.length_drop]; omega) (by omega) fun a11 c11 h11 O11 A11 => ?_
                have X11 := A11.extV O10 X10 hm0
                have k0 := X11.get c0
                have k2 := X11.get c2
                try simp only [execT_quiet, stT_plain, setT_eq, k0, splice, coreS, Value.cells, Value.oneCell', Nat.reduceAdd, Nat.reduceSub, Nat.reduceMul, Nat.reduceLeDiff, Int.reduceEq, Nat.reduceEqDiff, drawS, C3Fs20]
                refine execT_oneE ?_
                simp only [stO_plain, k2, splice, coreS, Value.cells, Value.oneCell', Nat.reduceAdd, Nat.reduceSub, Nat.reduceMul, Nat.reduceLeDiff, Int.reduceEq, Nat.reduceEqDiff, drawS, C3Fs20]
                refine stK_abs k2 (by simp) fun h12 g12 u12 => ?_
                simp only [splice] at g12
                simp only [execT_quiet, stT_plain, setT_eq, coreS, Value.cells, Value.oneCell', Nat.reduceAdd, Nat.reduceSub, Nat.reduceMul, Nat.reduceLeDiff, Int.reduceEq, Nat.reduceEqDiff, drawS, C3Fs20]
                refine execT_finE ?_
                simp only [g12, splice, coreS, Value.cells, Value.oneCell', Nat.reduceAdd, Nat.reduceSub, Nat.reduceMul, Nat.reduceLeDiff, Int.reduceEq, Nat.reduceEqDiff, C3Fs20]
                refine ⟨⟨a11, _, _, by rw [pstA, pstC, if_pos hp, if_pos hp, hp], ?_, by rw [pstL, if_pos hp, ins_length]; omega, fun p hp => by have := (O11.lt hp).2; have := y2.size; omega⟩, u12.ext (y2.trans X11) (by omega)⟩
                rw [pstL, if_pos hp, ins, hik]
                have r11 := O11.row
                rw [List.append_assoc] at r11
                exact row_upd r11 u12 (fun p hp => by have := (O11.lt hp).2; omega)
            · simp only [stO_plain, coreS, Value.cells, Value.oneCell', Nat.reduceAdd, Nat.reduceSub, Nat.reduceMul, Nat.reduceLeDiff, Int.reduceEq, Nat.reduceEqDiff, drawS, C3Fs20]
              refine app22e rfl rfl O10 (Nat.le_trans hm8 (Nat.le_trans A9.size x10.size)) (srcROW (hr.ext (y2.trans X10))) (by rw [List.length_drop]; omega) (by omega) fun a11 c11 h11 O11 A11 => ?_
              have X11 := A11.extV O10 X10 hm0
              have k0 := X11.get c0
              have k2 := X11.get c2
              try simp only [execT_quiet, stT_plain, setT_eq, k0, splice, coreS, Value.cells, Value.oneCell', Nat.reduceAdd, Nat.reduceSub, Nat.reduceMul, Nat.reduceLeDiff, Int.reduceEq, Nat.reduceEqDiff, drawS, C3Fs20]
              refine execT_oneE ?_
              simp only [stO_plain, k2, splice, coreS, Value.cells, Value.oneCell', Nat.reduceAdd, Nat.reduceSub, Nat.reduceMul, Nat.reduceLeDiff, Int.reduceEq, Nat.reduceEqDiff, drawS, C3Fs20]
              refine stK_abs k2 (by simp) fun h12 g12 u12 => ?_
              simp only [splice] at g12
              simp only [execT_quiet, stT_plain, setT_eq, coreS, Value.cells, Value.oneCell', Nat.reduceAdd, Nat.reduceSub, Nat.reduceMul, Nat.reduceLeDiff, Int.reduceEq, Nat.reduceEqDiff, drawS, C3Fs20]
              refine execT_finE ?_
              simp only [g12, splice, coreS, Value.cells, Value.oneCell', Nat.reduceAdd, Nat.reduceSub, Nat.reduceMul, Nat.reduceLeDiff, Int.reduceEq, Nat.reduceEqDiff, C3Fs20]
              refine ⟨⟨a11, _, _, by rw [pstA, pstC, if_pos hp, if_pos hp, hp], ?_, by rw [pstL, if_pos hp, ins_length]; omega, fun p hp => by have := (O11.lt hp).2; have := y2.size; omega⟩, u12.ext (y2.trans X11) (by omega)⟩
              rw [pstL, if_pos hp, ins, hik]
              have r11 := O11.row
              rw [List.append_assoc] at r11
              exact row_upd r11 u12 (fun p hp => by have := (O11.lt hp).2; omega)
          · simp only [stO_plain, splice, coreS, Value.cells, Value.oneCell', Nat.reduceAdd, Nat.reduceSub, Nat.reduceMul, Nat.reduceLeDiff, Int.reduceEq, Nat.reduceEqDiff, drawS, C3Fs20]
            refine ⟨by omega, (Ext.refl h5).push _, ?_⟩
            refine execT_keep fun h6 x6 => ?_
            simp only [stO_plain, coreS, Value.cells, Value.oneCell', Nat.reduceAdd, Nat.reduceSub, Nat.reduceMul, Nat.reduceLeDiff, Int.reduceEq, Nat.reduceEqDiff, drawS, C3Fs20]
            refine apf22 rfl rfl (x6.get (push_old (x5.get push_new))) (hIk.ext ((x4.trans x5.of_push).trans x6.of_push)) hlk (by omega) fun a6 c6 h7 O6 x7 => ⟨x7, ?_⟩
            refine execT_one fun h8 x8 => ?_
            simp only [stO_plain, coreS, Value.cells, Value.oneCell', Nat.reduceAdd, Nat.reduceSub, Nat.reduceMul, Nat.reduceLeDiff, Int.reduceEq, Nat.reduceEqDiff, drawS, C3Fs20]
            have hb8 := x8.get (x7.get (x6.get (push_new (h := h5))))
            have O8 := O6.ext x8
            have xb := (((x4.trans x5.of_push).trans x6.of_push).trans x7).trans x8
            have hm8 : h4.size ≤ h8.size := by
              have z1 := x5.size
              have z2 := x6.size
              have z3 := x7.size
              have z4 := x8.size
              try simp only [push_size] at z1
              try simp only [push_size] at z2
              try simp only [push_size] at z3
              try simp only [push_size] at z4
              omega
            refine app22e (ys := [e]) rfl rfl O8 hm8 (Row.block (by simpa [ensV, enV] using hb8)) (by rfl) (by omega) fun a9 c9 h9 O9 A9 => ?_
            have X9 := A9.extV O8 xb hm0
            simp only [execT_quiet, stT_plain, setT_eq, coreS, Value.cells, Value.oneCell', Nat.reduceAdd, Nat.reduceSub, Nat.reduceMul, Nat.reduceLeDiff, Int.reduceEq, Nat.reduceEqDiff, drawS, C3Fs20]
            refine execT_fin fun h10 x10 => ?_
            have X10 := X9.trans x10
            have O10 := O9.ext x10
            have hs10 := X10.size
            simp only [coreS, Value.cells, Value.oneCell', Nat.reduceAdd, Nat.reduceSub, Nat.reduceMul, Nat.reduceLeDiff, Int.reduceEq, Nat.reduceEqDiff, C3Fs20]
            refine WP_tree (by kernel_rfl) sta_eq (.pure 0 (.pure 2 (.quiet 4 (.quiet 5 (.quiet 6 (.quiet 7 (.quiet 8 (.fork3 1 3 9 true true false (.fork2 3 9 true false (.one 9 (.quiet 10 (.one 11 (.quiet 12 (.fin))))) (.quiet 3 (.quiet 10 (.one 11 (.quiet 12 (.fin)))))) (.fork2 1 9 true false (.one 9 (.quiet 10 (.one 11 (.quiet 12 (.fin))))) (.quiet 1 (.quiet 10 (.one 11 (.quiet 12 (.fin)))))) (.quiet 1 (.quiet 3 (.quiet 10 (.one 11 (.quiet 12 (.fin)))))))))))))) (by kernel_rfl) rfl (by kernel_rfl) ?_
            simp only [execT_quiet, stT_plain, execT_pure, stTp_plain, setT_eq, X10.get c0, t6, coreS, Value.cells, Value.oneCell', Nat.reduceAdd, Nat.reduceSub, Nat.reduceMul, Nat.reduceLeDiff, Int.reduceEq, Nat.reduceEqDiff, drawS, C3Fs20]
            refine ⟨by omega, by omega, by omega, by omega, ?_⟩
            refine execT_fork3E ?_ ?_ ?_
            · simp only [stO_plain, X10.get c0, coreS, Value.cells, Value.oneCell', Nat.reduceAdd, Nat.reduceSub, Nat.reduceMul, Nat.reduceLeDiff, Int.reduceEq, Nat.reduceEqDiff, drawS, C3Fs20]
              refine ⟨rfl, execT_fork2E ?_ ?_⟩
              · simp only [stO_plain, X10.get c0, coreS, Value.cells, Value.oneCell', Nat.reduceAdd, Nat.reduceSub, Nat.reduceMul, Nat.reduceLeDiff, Int.reduceEq, Nat.reduceEqDiff, drawS, C3Fs20]
                refine ⟨rfl, execT_oneE ?_⟩
                simp only [stO_plain, coreS, Value.cells, Value.oneCell', Nat.reduceAdd, Nat.reduceSub, Nat.reduceMul, Nat.reduceLeDiff, Int.reduceEq, Nat.reduceEqDiff, drawS, C3Fs20]
                refine app22e rfl rfl O10 (Nat.le_trans hm8 (Nat.le_trans A9.size x10.size)) (srcROW (hr.ext (y2.trans X10))) (by rw [List.length_drop]; omega) (by omega) fun a11 c11 h11 O11 A11 => ?_
                have X11 := A11.extV O10 X10 hm0
                have k0 := X11.get c0
                have k2 := X11.get c2
                try simp only [execT_quiet, stT_plain, setT_eq, k0, splice, coreS, Value.cells, Value.oneCell', Nat.reduceAdd, Nat.reduceSub, Nat.reduceMul, Nat.reduceLeDiff, Int.reduceEq, Nat.reduceEqDiff, drawS, C3Fs20]
                refine execT_oneE ?_
                simp only [stO_plain, k2, splice, coreS, Value.cells, Value.oneCell', Nat.reduceAdd, Nat.reduceSub, Nat.reduceMul, Nat.reduceLeDiff, Int.reduceEq, Nat.reduceEqDiff, drawS, C3Fs20]
                refine stK_abs k2 (by simp) fun h12 g12 u12 => ?_
                simp only [splice] at g12
                simp only [execT_quiet, stT_plain, setT_eq, coreS, Value.cells, Value.oneCell', Nat.reduceAdd, Nat.reduceSub, Nat.reduceMul, Nat.reduceLeDiff, Int.reduceEq, Nat.reduceEqDiff, drawS, C3Fs20]
                refine execT_finE ?_
                simp only [g12, splice, coreS, Value.cells, Value.oneCell', Nat.reduceAdd, Nat.reduceSub, Nat.reduceMul, Nat.reduceLeDiff, Int.reduceEq, Nat.reduceEqDiff, C3Fs20]
                refine ⟨⟨a11, _, _, by rw [pstA, pstC, if_pos hp, if_pos hp, hp], ?_, by rw [pstL, if_pos hp, ins_length]; omega, fun p hp => by have := (O11.lt hp).2; have := y2.size; omega⟩, u12.ext (y2.trans X11) (by omega)⟩
                rw [pstL, if_pos hp, ins, hik]
                have r11 := O11.row
                rw [List.append_assoc] at r11
                exact row_upd r11 u12 (fun p hp => by have := (O11.lt hp).2; omega)
              · simp only [stO_plain, coreS, Value.cells, Value.oneCell', Nat.reduceAdd, Nat.reduceSub, Nat.reduceMul, Nat.reduceLeDiff, Int.reduceEq, Nat.reduceEqDiff, drawS, C3Fs20]
                refine app22e rfl rfl O10 (Nat.le_trans hm8 (Nat.le_trans A9.size x10.size)) (srcROW (hr.ext (y2.trans X10))) (by rw [List.length_drop]; omega) (by omega) fun a11 c11 h11 O11 A11 => ?_
                have X11 := A11.extV O10 X10 hm0
                have k0 := X11.get c0
                have k2 := X11.get c2
                try simp only [execT_quiet, stT_plain, setT_eq, k0, splice, coreS, Value.cells, Value.oneCell', Nat.reduceAdd, Nat.reduceSub, Nat.reduceMul, Nat.reduceLeDiff, Int.reduceEq, Nat.reduceEqDiff, drawS, C3Fs20]
                refine execT_oneE ?_
                simp only [stO_plain, k2, splice, coreS, Value.cells, Value.oneCell', Nat.reduceAdd, Nat.reduceSub, Nat.reduceMul, Nat.reduceLeDiff, Int.reduceEq, Nat.reduceEqDiff, drawS, C3Fs20]
                refine stK_abs k2 (by simp) fun h12 g12 u12 => ?_
                simp only [splice] at g12
                simp only [execT_quiet, stT_plain, setT_eq, coreS, Value.cells, Value.oneCell', Nat.reduceAdd, Nat.reduceSub, Nat.reduceMul, Nat.reduceLeDiff, Int.reduceEq, Nat.reduceEqDiff, drawS, C3Fs20]
                refine execT_finE ?_
                simp only [g12, splice, coreS, Value.cells, Value.oneCell', Nat.reduceAdd, Nat.reduceSub, Nat.reduceMul, Nat.reduceLeDiff, Int.reduceEq, Nat.reduceEqDiff, C3Fs20]
                refine ⟨⟨a11, _, _, by rw [pstA, pstC, if_pos hp, if_pos hp, hp], ?_, by rw [pstL, if_pos hp, ins_length]; omega, fun p hp => by have := (O11.lt hp).2; have := y2.size; omega⟩, u12.ext (y2.trans X11) (by omega)⟩
                rw [pstL, if_pos hp, ins, hik]
                have r11 := O11.row
                rw [List.append_assoc] at r11
                exact row_upd r11 u12 (fun p hp => by have := (O11.lt hp).2; omega)
            · simp only [stO_plain, X10.get c0, coreS, Value.cells, Value.oneCell', Nat.reduceAdd, Nat.reduceSub, Nat.reduceMul, Nat.reduceLeDiff, Int.reduceEq, Nat.reduceEqDiff, drawS, C3Fs20]
              refine ⟨rfl, execT_fork2E ?_ ?_⟩
              · simp only [stO_plain, X10.get c0, coreS, Value.cells, Value.oneCell', Nat.reduceAdd, Nat.reduceSub, Nat.reduceMul, Nat.reduceLeDiff, Int.reduceEq, Nat.reduceEqDiff, drawS, C3Fs20]
                refine ⟨rfl, execT_oneE ?_⟩
                simp only [stO_plain, coreS, Value.cells, Value.oneCell', Nat.reduceAdd, Nat.reduceSub, Nat.reduceMul, Nat.reduceLeDiff, Int.reduceEq, Nat.reduceEqDiff, drawS, C3Fs20]
                refine app22e rfl rfl O10 (Nat.le_trans hm8 (Nat.le_trans A9.size x10.size)) (srcROW (hr.ext (y2.trans X10))) (by rw [List.length_drop]; omega) (by omega) fun a11 c11 h11 O11 A11 => ?_
                have X11 := A11.extV O10 X10 hm0
                have k0 := X11.get c0
                have k2 := X11.get c2
                try simp only [execT_quiet, stT_plain, setT_eq, k0, splice, coreS, Value.cells, Value.oneCell', Nat.reduceAdd, Nat.reduceSub, Nat.reduceMul, Nat.reduceLeDiff, Int.reduceEq, Nat.reduceEqDiff, drawS, C3Fs20]
                refine execT_oneE ?_
                simp only [stO_plain, k2, splice, coreS, Value.cells, Value.oneCell', Nat.reduceAdd, Nat.reduceSub, Nat.reduceMul, Nat.reduceLeDiff, Int.reduceEq, Nat.reduceEqDiff, drawS, C3Fs20]
                refine stK_abs k2 (by simp) fun h12 g12 u12 => ?_
                simp only [splice] at g12
                simp only [execT_quiet, stT_plain, setT_eq, coreS, Value.cells, Value.oneCell', Nat.reduceAdd, Nat.reduceSub, Nat.reduceMul, Nat.reduceLeDiff, Int.reduceEq, Nat.reduceEqDiff, drawS, C3Fs20]
                refine execT_finE ?_
                simp only [g12, splice, coreS, Value.cells, Value.oneCell', Nat.reduceAdd, Nat.reduceSub, Nat.reduceMul, Nat.reduceLeDiff, Int.reduceEq, Nat.reduceEqDiff, C3Fs20]
                refine ⟨⟨a11, _, _, by rw [pstA, pstC, if_pos hp, if_pos hp, hp], ?_, by rw [pstL, if_pos hp, ins_length]; omega, fun p hp => by have := (O11.lt hp).2; have := y2.size; omega⟩, u12.ext (y2.trans X11) (by omega)⟩
                rw [pstL, if_pos hp, ins, hik]
                have r11 := O11.row
                rw [List.append_assoc] at r11
                exact row_upd r11 u12 (fun p hp => by have := (O11.lt hp).2; omega)
              · simp only [stO_plain, coreS, Value.cells, Value.oneCell', Nat.reduceAdd, Nat.reduceSub, Nat.reduceMul, Nat.reduceLeDiff, Int.reduceEq, Nat.reduceEqDiff, drawS, C3Fs20]
                refine app22e rfl rfl O10 (Nat.le_trans hm8 (Nat.le_trans A9.size x10.size)) (srcROW (hr.ext (y2.trans X10))) (by rw [List.length_drop]; omega) (by omega) fun a11 c11 h11 O11 A11 => ?_
                have X11 := A11.extV O10 X10 hm0
                have k0 := X11.get c0
                have k2 := X11.get c2
                try simp only [execT_quiet, stT_plain, setT_eq, k0, splice, coreS, Value.cells, Value.oneCell', Nat.reduceAdd, Nat.reduceSub, Nat.reduceMul, Nat.reduceLeDiff, Int.reduceEq, Nat.reduceEqDiff, drawS, C3Fs20]
                refine execT_oneE ?_
                simp only [stO_plain, k2, splice, coreS, Value.cells, Value.oneCell', Nat.reduceAdd, Nat.reduceSub, Nat.reduceMul, Nat.reduceLeDiff, Int.reduceEq, Nat.reduceEqDiff, drawS, C3Fs20]
                refine stK_abs k2 (by simp) fun h12 g12 u12 => ?_
                simp only [splice] at g12
                simp only [execT_quiet, stT_plain, setT_eq, coreS, Value.cells, Value.oneCell', Nat.reduceAdd, Nat.reduceSub, Nat.reduceMul, Nat.reduceLeDiff, Int.reduceEq, Nat.reduceEqDiff, drawS, C3Fs20]
                refine execT_finE ?_
                simp only [g12, splice, coreS, Value.cells, Value.oneCell', Nat.reduceAdd, Nat.reduceSub, Nat.reduceMul, Nat.reduceLeDiff, Int.reduceEq, Nat.reduceEqDiff, C3Fs20]
                refine ⟨⟨a11, _, _, by rw [pstA, pstC, if_pos hp, if_pos hp, hp], ?_, by rw [pstL, if_pos hp, ins_length]; omega, fun p hp => by have := (O11.lt hp).2; have := y2.size; omega⟩, u12.ext (y2.trans X11) (by omega)⟩
                rw [pstL, if_pos hp, ins, hik]
                have r11 := O11.row
                rw [List.append_assoc] at r11
                exact row_upd r11 u12 (fun p hp => by have := (O11.lt hp).2; omega)
            · simp only [stO_plain, coreS, Value.cells, Value.oneCell', Nat.reduceAdd, Nat.reduceSub, Nat.reduceMul, Nat.reduceLeDiff, Int.reduceEq, Nat.reduceEqDiff, drawS, C3Fs20]
              refine app22e rfl rfl O10 (Nat.le_trans hm8 (Nat.le_trans A9.size x10.size)) (srcROW (hr.ext (y2.trans X10))) (by rw [List.length_drop]; omega) (by omega) fun a11 c11 h11 O11 A11 => ?_
              have X11 := A11.extV O10 X10 hm0
              have k0 := X11.get c0
              have k2 := X11.get c2
              try simp only [execT_quiet, stT_plain, setT_eq, k0, splice, coreS, Value.cells, Value.oneCell', Nat.reduceAdd, Nat.reduceSub, Nat.reduceMul, Nat.reduceLeDiff, Int.reduceEq, Nat.reduceEqDiff, drawS, C3Fs20]
              refine execT_oneE ?_
              simp only [stO_plain, k2, splice, coreS, Value.cells, Value.oneCell', Nat.reduceAdd, Nat.reduceSub, Nat.reduceMul, Nat.reduceLeDiff, Int.reduceEq, Nat.reduceEqDiff, drawS, C3Fs20]
              refine stK_abs k2 (by simp) fun h12 g12 u12 => ?_
              simp only [splice] at g12
              simp only [execT_quiet, stT_plain, setT_eq, coreS, Value.cells, Value.oneCell', Nat.reduceAdd, Nat.reduceSub, Nat.reduceMul, Nat.reduceLeDiff, Int.reduceEq, Nat.reduceEqDiff, drawS, C3Fs20]
              refine execT_finE ?_
              simp only [g12, splice, coreS, Value.cells, Value.oneCell', Nat.reduceAdd, Nat.reduceSub, Nat.reduceMul, Nat.reduceLeDiff, Int.reduceEq, Nat.reduceEqDiff, C3Fs20]
              refine ⟨⟨a11, _, _, by rw [pstA, pstC, if_pos hp, if_pos hp, hp], ?_, by rw [pstL, if_pos hp, ins_length]; omega, fun p hp => by have := (O11.lt hp).2; have := y2.size; omega⟩, u12.ext (y2.trans X11) (by omega)⟩
              rw [pstL, if_pos hp, ins, hik]
              have r11 := O11.row
              rw [List.append_assoc] at r11
              exact row_upd r11 u12 (fun p hp => by have := (O11.lt hp).2; omega)
        · simp only [stO_plain, splice, coreS, Value.cells, Value.oneCell', Nat.reduceAdd, Nat.reduceSub, Nat.reduceMul, Nat.reduceLeDiff, Int.reduceEq, Nat.reduceEqDiff, drawS, C3Fs20]
          refine ⟨by omega, (Ext.refl h4).push _, ?_⟩
          refine execT_keep fun h5 x5 => ?_
          simp only [stO_plain, splice, coreS, Value.cells, Value.oneCell', Nat.reduceAdd, Nat.reduceSub, Nat.reduceMul, Nat.reduceLeDiff, Int.reduceEq, Nat.reduceEqDiff, drawS, C3Fs20]
          refine ⟨by omega, (Ext.refl h5).push _, ?_⟩
          · have hm0 : h3.size ≤ h5.size := (x4.trans x5.of_push).size
            refine execT_keep fun h6 x6 => ?_
            simp only [stO_plain, coreS, Value.cells, Value.oneCell', Nat.reduceAdd, Nat.reduceSub, Nat.reduceMul, Nat.reduceLeDiff, Int.reduceEq, Nat.reduceEqDiff, drawS, C3Fs20]
            refine apf22 rfl rfl (x6.get push_new) (hIk.ext ((x4.trans x5.of_push).trans x6.of_push)) hlk (by omega) fun a6 c6 h7 O6 x7 => ⟨x7, ?_⟩
            refine execT_one fun h8 x8 => ?_
            simp only [stO_plain, coreS, Value.cells, Value.oneCell', Nat.reduceAdd, Nat.reduceSub, Nat.reduceMul, Nat.reduceLeDiff, Int.reduceEq, Nat.reduceEqDiff, drawS, C3Fs20]
            have hb8 := x8.get (x7.get (x6.get (push_old (x5.get (push_new (h := h4))))))
            have O8 := O6.ext x8
            have xb := (((x4.trans x5.of_push).trans x6.of_push).trans x7).trans x8
            have hm8 : h5.size ≤ h8.size := by
              have z1 := x5.size
              have z2 := x6.size
              have z3 := x7.size
              have z4 := x8.size
              try simp only [push_size] at z1
              try simp only [push_size] at z2
              try simp only [push_size] at z3
              try simp only [push_size] at z4
              omega
            refine app22e (ys := [e]) rfl rfl O8 hm8 (Row.block (by simpa [ensV, enV] using hb8)) (by rfl) (by omega) fun a9 c9 h9 O9 A9 => ?_
            have X9 := A9.extV O8 xb hm0
            simp only [execT_quiet, stT_plain, setT_eq, coreS, Value.cells, Value.oneCell', Nat.reduceAdd, Nat.reduceSub, Nat.reduceMul, Nat.reduceLeDiff, Int.reduceEq, Nat.reduceEqDiff, drawS, C3Fs20]
            refine execT_fin fun h10 x10 => ?_
            have X10 := X9.trans x10
            have O10 := O9.ext x10
            have hs10 := X10.size
            simp only [coreS, Value.cells, Value.oneCell', Nat.reduceAdd, Nat.reduceSub, Nat.reduceMul, Nat.reduceLeDiff, Int.reduceEq, Nat.reduceEqDiff, C3Fs20]
            refine WP_tree (by kernel_rfl) sta_eq (.pure 0 (.pure 2 (.quiet 4 (.quiet 5 (.quiet 6 (.quiet 7 (.quiet 8 (.fork3 1 3 9 true true false (.fork2 3 9 true false (.one 9 (.quiet 10 (.one 11 (.quiet 12 (.fin))))) (.quiet 3 (.quiet 10 (.one 11 (.quiet 12 (.fin)))))) (.fork2 1 9 true false (.one 9 (.quiet 10 (.one 11 (.quiet 12 (.fin))))) (.quiet 1 (.quiet 10 (.one 11 (.quiet 12 (.fin)))))) (.quiet 1 (.quiet 3 (.quiet 10 (.one 11 (.quiet 12 (.fin)))))))))))))) (by kernel_rfl) rfl (by kernel_rfl) ?_
            simp only [execT_quiet, stT_plain, execT_pure, stTp_plain, setT_eq, X10.get c0, t6, coreS, Value.cells, Value.oneCell', Nat.reduceAdd, Nat.reduceSub, Nat.reduceMul, Nat.reduceLeDiff, Int.reduceEq, Nat.reduceEqDiff, drawS, C3Fs20]
            refine ⟨by omega, by omega, by omega, by omega, ?_⟩
            refine execT_fork3E ?_ ?_ ?_
            · simp only [stO_plain, X10.get c0, coreS, Value.cells, Value.oneCell', Nat.reduceAdd, Nat.reduceSub, Nat.reduceMul, Nat.reduceLeDiff, Int.reduceEq, Nat.reduceEqDiff, drawS, C3Fs20]
              refine ⟨rfl, execT_fork2E ?_ ?_⟩
              · simp only [stO_plain, X10.get c0, coreS, Value.cells, Value.oneCell', Nat.reduceAdd, Nat.reduceSub, Nat.reduceMul, Nat.reduceLeDiff, Int.reduceEq, Nat.reduceEqDiff, drawS, C3Fs20]
                refine ⟨rfl, execT_oneE ?_⟩
                simp only [stO_plain, coreS, Value.cells, Value.oneCell', Nat.reduceAdd, Nat.reduceSub, Nat.reduceMul, Nat.reduceLeDiff, Int.reduceEq, Nat.reduceEqDiff, drawS, C3Fs20]
                refine app22e rfl rfl O10 (Nat.le_trans hm8 (Nat.le_trans A9.size x10.size)) (srcROW (hr.ext (y2.trans X10))) (by rw [List.length_drop]; omega) (by omega) fun a11 c11 h11 O11 A11 => ?_
                have X11 := A11.extV O10 X10 hm0
                have k0 := X11.get c0
                have k2 := X11.get c2
                try simp only [execT_quiet, stT_plain, setT_eq, k0, splice, coreS, Value.cells, Value.oneCell', Nat.reduceAdd, Nat.reduceSub, Nat.reduceMul, Nat.reduceLeDiff, Int.reduceEq, Nat.reduceEqDiff, drawS, C3Fs20]
                refine execT_oneE ?_
                simp only [stO_plain, k2, splice, coreS, Value.cells, Value.oneCell', Nat.reduceAdd, Nat.reduceSub, Nat.reduceMul, Nat.reduceLeDiff, Int.reduceEq, Nat.reduceEqDiff, drawS, C3Fs20]
                refine stK_abs k2 (by simp) fun h12 g12 u12 => ?_
                simp only [splice] at g12
                simp only [execT_quiet, stT_plain, setT_eq, coreS, Value.cells, Value.oneCell', Nat.reduceAdd, Nat.reduceSub, Nat.reduceMul, Nat.reduceLeDiff, Int.reduceEq, Nat.reduceEqDiff, drawS, C3Fs20]
                refine execT_finE ?_
                simp only [g12, splice, coreS, Value.cells, Value.oneCell', Nat.reduceAdd, Nat.reduceSub, Nat.reduceMul, Nat.reduceLeDiff, Int.reduceEq, Nat.reduceEqDiff, C3Fs20]
                refine ⟨⟨a11, _, _, by rw [pstA, pstC, if_pos hp, if_pos hp, hp], ?_, by rw [pstL, if_pos hp, ins_length]; omega, fun p hp => by have := (O11.lt hp).2; have := y2.size; omega⟩, u12.ext (y2.trans X11) (by omega)⟩
                rw [pstL, if_pos hp, ins, hik]
                have r11 := O11.row
                rw [List.append_assoc] at r11
                exact row_upd r11 u12 (fun p hp => by have := (O11.lt hp).2; omega)
              · simp only [stO_plain, coreS, Value.cells, Value.oneCell', Nat.reduceAdd, Nat.reduceSub, Nat.reduceMul, Nat.reduceLeDiff, Int.reduceEq, Nat.reduceEqDiff, drawS, C3Fs20]
                refine app22e rfl rfl O10 (Nat.le_trans hm8 (Nat.le_trans A9.size x10.size)) (srcROW (hr.ext (y2.trans X10))) (by rw [List.length_drop]; omega) (by omega) fun a11 c11 h11 O11 A11 => ?_
                have X11 := A11.extV O10 X10 hm0
                have k0 := X11.get c0
                have k2 := X11.get c2
                try simp only [execT_quiet, stT_plain, setT_eq, k0, splice, coreS, Value.cells, Value.oneCell', Nat.reduceAdd, Nat.reduceSub, Nat.reduceMul, Nat.reduceLeDiff, Int.reduceEq, Nat.reduceEqDiff, drawS, C3Fs20]
                refine execT_oneE ?_
                simp only [stO_plain, k2, splice, coreS, Value.cells, Value.oneCell', Nat.reduceAdd, Nat.reduceSub, Nat.reduceMul, Nat.reduceLeDiff, Int.reduceEq, Nat.reduceEqDiff, drawS, C3Fs20]
                refine stK_abs k2 (by simp) fun h12 g12 u12 => ?_
                simp only [splice] at g12
                simp only [execT_quiet, stT_plain, setT_eq, coreS, Value.cells, Value.oneCell', Nat.reduceAdd, Nat.reduceSub, Nat.reduceMul, Nat.reduceLeDiff, Int.reduceEq, Nat.reduceEqDiff, drawS, C3Fs20]
                refine execT_finE ?_
                simp only [g12, splice, coreS, Value.cells, Value.oneCell', Nat.reduceAdd, Nat.reduceSub, Nat.reduceMul, Nat.reduceLeDiff, Int.reduceEq, Nat.reduceEqDiff, C3Fs20]
                refine ⟨⟨a11, _, _, by rw [pstA, pstC, if_pos hp, if_pos hp, hp], ?_, by rw [pstL, if_pos hp, ins_length]; omega, fun p hp => by have := (O11.lt hp).2; have := y2.size; omega⟩, u12.ext (y2.trans X11) (by omega)⟩
                rw [pstL, if_pos hp, ins, hik]
                have r11 := O11.row
                rw [List.append_assoc] at r11
                exact row_upd r11 u12 (fun p hp => by have := (O11.lt hp).2; omega)
            · simp only [stO_plain, X10.get c0, coreS, Value.cells, Value.oneCell', Nat.reduceAdd, Nat.reduceSub, Nat.reduceMul, Nat.reduceLeDiff, Int.reduceEq, Nat.reduceEqDiff, drawS, C3Fs20]
              refine ⟨rfl, execT_fork2E ?_ ?_⟩
              · simp only [stO_plain, X10.get c0, coreS, Value.cells, Value.oneCell', Nat.reduceAdd, Nat.reduceSub, Nat.reduceMul, Nat.reduceLeDiff, Int.reduceEq, Nat.reduceEqDiff, drawS, C3Fs20]
                refine ⟨rfl, execT_oneE ?_⟩
                simp only [stO_plain, coreS, Value.cells, Value.oneCell', Nat.reduceAdd, Nat.reduceSub, Nat.reduceMul, Nat.reduceLeDiff, Int.reduceEq, Nat.reduceEqDiff, drawS, C3Fs20]
                refine app22e rfl rfl O10 (Nat.le_trans hm8 (Nat.le_trans A9.size x10.size)) (srcROW (hr.ext (y2.trans X10))) (by rw [List.length_drop]; omega) (by omega) fun a11 c11 h11 O11 A11 => ?_
                have X11 := A11.extV O10 X10 hm0
                have k0 := X11.get c0
                have k2 := X11.get c2
                try simp only [execT_quiet, stT_plain, setT_eq, k0, splice, coreS, Value.cells, Value.oneCell', Nat.reduceAdd, Nat.reduceSub, Nat.reduceMul, Nat.reduceLeDiff, Int.reduceEq, Nat.reduceEqDiff, drawS, C3Fs20]
                refine execT_oneE ?_
                simp only [stO_plain, k2, splice, coreS, Value.cells, Value.oneCell', Nat.reduceAdd, Nat.reduceSub, Nat.reduceMul, Nat.reduceLeDiff, Int.reduceEq, Nat.reduceEqDiff, drawS, C3Fs20]
                refine stK_abs k2 (by simp) fun h12 g12 u12 => ?_
                simp only [splice] at g12
                simp only [execT_quiet, stT_plain, setT_eq, coreS, Value.cells, Value.oneCell', Nat.reduceAdd, Nat.reduceSub, Nat.reduceMul, Nat.reduceLeDiff, Int.reduceEq, Nat.reduceEqDiff, drawS, C3Fs20]
                refine execT_finE ?_
                simp only [g12, splice, coreS, Value.cells, Value.oneCell', Nat.reduceAdd, Nat.reduceSub, Nat.reduceMul, Nat.reduceLeDiff, Int.reduceEq, Nat.reduceEqDiff, C3Fs20]
                refine ⟨⟨a11, _, _, by rw [pstA, pstC, if_pos hp, if_pos hp, hp], ?_, by rw [pstL, if_pos hp, ins_length]; omega, fun p hp => by have := (O11.lt hp).2; have := y2.size; omega⟩, u12.ext (y2.trans X11) (by omega)⟩
                rw [pstL, if_pos hp, ins, hik]
                have r11 := O11.row
                rw [List.append_assoc] at r11
                exact row_upd r11 u12 (fun p hp => by have := (O11.lt hp).2; omega)
              · simp only [stO_plain, coreS, Value.cells, Value.oneCell', Nat.reduceAdd, Nat.reduceSub, Nat.reduceMul, Nat.reduceLeDiff, Int.reduceEq, Nat.reduceEqDiff, drawS, C3Fs20]
                refine app22e rfl rfl O10 (Nat.le_trans hm8 (Nat.le_trans A9.size x10.size)) (srcROW (hr.ext (y2.trans X10))) (by rw [List.length_drop]; omega) (by omega) fun a11 c11 h11 O11 A11 => ?_
                have X11 := A11.extV O10 X10 hm0
                have k0 := X11.get c0
                have k2 := X11.get c2
                try simp only [execT_quiet, stT_plain, setT_eq, k0, splice, coreS, Value.cells, Value.oneCell', Nat.reduceAdd, Nat.reduceSub, Nat.reduceMul, Nat.reduceLeDiff, Int.reduceEq, Nat.reduceEqDiff, drawS, C3Fs20]
                refine execT_oneE ?_
                simp only [stO_plain, k2, splice, coreS, Value.cells, Value.oneCell', Nat.reduceAdd, Nat.reduceSub, Nat.reduceMul, Nat.reduceLeDiff, Int.reduceEq, Nat.reduceEqDiff, drawS, C3Fs20]
                refine stK_abs k2 (by simp) fun h12 g12 u12 => ?_
                simp only [splice] at g12
                simp only [execT_quiet, stT_plain, setT_eq, coreS, Value.cells, Value.oneCell', Nat.reduceAdd, Nat.reduceSub, Nat.reduceMul, Nat.reduceLeDiff, Int.reduceEq, Nat.reduceEqDiff, drawS, C3Fs20]
                refine execT_finE ?_
                simp only [g12, splice, coreS, Value.cells, Value.oneCell', Nat.reduceAdd, Nat.reduceSub, Nat.reduceMul, Nat.reduceLeDiff, Int.reduceEq, Nat.reduceEqDiff, C3Fs20]
                refine ⟨⟨a11, _, _, by rw [pstA, pstC, if_pos hp, if_pos hp, hp], ?_, by rw [pstL, if_pos hp, ins_length]; omega, fun p hp => by have := (O11.lt hp).2; have := y2.size; omega⟩, u12.ext (y2.trans X11) (by omega)⟩
                rw [pstL, if_pos hp, ins, hik]
                have r11 := O11.row
                rw [List.append_assoc] at r11
                exact row_upd r11 u12 (fun p hp => by have := (O11.lt hp).2; omega)
            · simp only [stO_plain, coreS, Value.cells, Value.oneCell', Nat.reduceAdd, Nat.reduceSub, Nat.reduceMul, Nat.reduceLeDiff, Int.reduceEq, Nat.reduceEqDiff, drawS, C3Fs20]
              refine app22e rfl rfl O10 (Nat.le_trans hm8 (Nat.le_trans A9.size x10.size)) (srcROW (hr.ext (y2.trans X10))) (by rw [List.length_drop]; omega) (by omega) fun a11 c11 h11 O11 A11 => ?_
              have X11 := A11.extV O10 X10 hm0
              have k0 := X11.get c0
              have k2 := X11.get c2
              try simp only [execT_quiet, stT_plain, setT_eq, k0, splice, coreS, Value.cells, Value.oneCell', Nat.reduceAdd, Nat.reduceSub, Nat.reduceMul, Nat.reduceLeDiff, Int.reduceEq, Nat.reduceEqDiff, drawS, C3Fs20]
              refine execT_oneE ?_
              simp only [stO_plain, k2, splice, coreS, Value.cells, Value.oneCell', Nat.reduceAdd, Nat.reduceSub, Nat.reduceMul, Nat.reduceLeDiff, Int.reduceEq, Nat.reduceEqDiff, drawS, C3Fs20]
              refine stK_abs k2 (by simp) fun h12 g12 u12 => ?_
              simp only [splice] at g12
              simp only [execT_quiet, stT_plain, setT_eq, coreS, Value.cells, Value.oneCell', Nat.reduceAdd, Nat.reduceSub, Nat.reduceMul, Nat.reduceLeDiff, Int.reduceEq, Nat.reduceEqDiff, drawS, C3Fs20]
              refine execT_finE ?_
              simp only [g12, splice, coreS, Value.cells, Value.oneCell', Nat.reduceAdd, Nat.reduceSub, Nat.reduceMul, Nat.reduceLeDiff, Int.reduceEq, Nat.reduceEqDiff, C3Fs20]
              refine ⟨⟨a11, _, _, by rw [pstA, pstC, if_pos hp, if_pos hp, hp], ?_, by rw [pstL, if_pos hp, ins_length]; omega, fun p hp => by have := (O11.lt hp).2; have := y2.size; omega⟩, u12.ext (y2.trans X11) (by omega)⟩
              rw [pstL, if_pos hp, ins, hik]
              have r11 := O11.row
              rw [List.append_assoc] at r11
              exact row_upd r11 u12 (fun p hp => by have := (O11.lt hp).2; omega)
    · have hp : pst acc cl es e = 3 := by unfold pst; rw [if_neg (by simpa using hc), if_pos hoe]
      simp only [hoe, c2, if_false, decide_false, Bool.not_false, coreS, Value.cells, Value.oneCell', Nat.reduceAdd, Nat.reduceSub, Nat.reduceMul, Nat.reduceLeDiff, Int.reduceEq, Nat.reduceEqDiff, C3Fs20]
      refine stK_abs c2 (by simp) fun h9 g9 u9 => ?_
      simp only [splice] at g9
      simp only [g9, splice, coreS, Value.cells, Value.oneCell', Nat.reduceAdd, Nat.reduceSub, Nat.reduceMul, Nat.reduceLeDiff, Int.reduceEq, Nat.reduceEqDiff, C3Fs20]
      exact bad (hp) (by omega) (u9.ext y2 (by omega))
  · have hp : pst acc cl es e = chk acc cl es := by unfold pst; rw [if_pos hc]
    simp only [hc, hb0, decide_false, Bool.not_false, coreS, Value.cells, Value.oneCell', Nat.reduceAdd, Nat.reduceSub, Nat.reduceMul, Nat.reduceLeDiff, Int.reduceEq, Nat.reduceEqDiff, C3Fs20]
    refine CallsH.mono (check26 acc cl a n c es _ (hr.ext y1) hn hl) ?_
    rintro v h2 ⟨rfl, x2⟩
    have c2 := x2.get hb2
    simp only [c2, coreS, Value.cells, Value.oneCell', Nat.reduceAdd, Nat.reduceSub, Nat.reduceMul, Nat.reduceLeDiff, Int.reduceEq, Nat.reduceEqDiff, C3Fs20]
    refine stK_abs c2 (by simp) fun h9 g9 u9 => ?_
    simp only [splice] at g9
    simp only [g9, splice, coreS, Value.cells, Value.oneCell', Nat.reduceAdd, Nat.reduceSub, Nat.reduceMul, Nat.reduceLeDiff, Int.reduceEq, Nat.reduceEqDiff, C3Fs20]
    exact bad (hp) (hc) (u9.ext (y1.trans x2) (by omega))
end Go.Proofs.YtepaekbjoombpaaGreatDoor
