/- LedgerBack returns true. -/
import Derived.Test.YtepaekbjoombpaaGreatDoorEL
import Derived.Test.YtepaekbjoombpaaGreatDoorD1
import Derived.Test.YtepaekbjoombpaaGreatDoorWork
import Derived.Test.YtepaekbjoombpaaGreatDoorEngB
import Derived.Test.YtepaekbjoombpaaGreatDoorC3a
namespace Go.Proofs.YtepaekbjoombpaaGreatDoor
open Go Go.Proofs Go.Eng Go.Run Tab
set_option maxRecDepth 100000
set_option linter.unusedSimpArgs false
set_option linter.unusedVariables false
set_option maxHeartbeats 8000000
set_option linter.defProp false
def E4Fs8 := (And.intro (And.intro (And.intro (And.intro @agg22 (And.intro @agg24 @agg26)) (And.intro @agg3 (And.intro @by26 @fo24_0))) (And.intro (And.intro @fo24_1 (And.intro @fo24_2 @fo26_0)) (And.intro (And.intro @fps24_0 @fps24_1) (And.intro @fps24_2 @inf22)))) (And.intro (And.intro (And.intro @inf24 (And.intro @inf26 @inf3)) (And.intro @okf24 (And.intro @sz22 @sz24))) (And.intro (And.intro @sz26 (And.intro @sz3 @zero24)) (And.intro (And.intro @zero26 @Tryz.underlying3) (And.intro @Tryz.underlying5 @Tryz.underlying22)))))
/-- A book without an entry. -/
def wo (es : List En) (k : Nat) : List En := es.take k ++ es.drop (k + 1)
theorem wo_sub {es : List En} {k : Nat} : (wo es k).Sublist es := by
  have h : (es.take k ++ es.drop (k + 1)).Sublist (es.take k ++ es.drop k) := List.Sublist.append (List.Sublist.refl _) (by
    rw [← List.drop_drop]; exact List.drop_sublist ..)
  rwa [List.take_append_drop] at h
theorem chk_wo {acc cl : Int} {es : List En} {k : Nat} (hc : chk acc cl es = 0) : chk acc cl (wo es k) = 0 := by
  obtain ⟨h1, h2, h3, h4, h5, h6⟩ := chk_iff.1 hc
  have hs := wo_sub (es := es) (k := k)
  exact chk_iff.2 ⟨h1, by have := hs.length_le; omega, h3, fun e he => h4 e (hs.subset he), h5.sublist hs, fun e he => h6 e (hs.subset he)⟩
theorem balA_wo {es : List En} {k : Nat} (hk : k < es.length) (day i : Int) : balA es day i = balA (wo es k) day i + amt day i es[k] := by
  have h : es = es.take k ++ es[k] :: es.drop (k + 1) := by rw [← List.drop_eq_getElem_cons hk, List.take_append_drop]
  have h2 := congrArg (fun l => balA l day i) h
  simp only [balA_append, balA_cons] at h2
  rw [wo, balA_append, h2]; omega
theorem bals_back {acc cl : Int} {es : List En} {k : Nat} {day at' : Int} (n : Nat) (hk : k < es.length) (hp : pst acc cl es (bkE es k day) = 0) (hd : es[k].d ≤ day) :
    bals n (pstX acc cl es (bkE es k day)) at' = if day ≤ at' then bals n (wo es k) at' else bals n es at' := by
  split
  · rename_i h
    unfold bals
    refine List.map_congr_left fun i _ => ?_
    rw [balA_pstX, if_pos hp, balA_wo hk]
    have h1 : (bkE es k day).d ≤ at' := h
    rw [amt, if_pos (show es[k].d ≤ at' by omega), amt, if_pos h1]
    simp only [bkE, bkX_at hk]
    omega
  · rename_i h
    unfold bals
    refine List.map_congr_left fun i _ => ?_
    rw [balA_pstX, if_pos hp, amt, if_neg (show ¬ (bkE es k day).d ≤ at' from h)]
    omega
theorem App.rb {h h' : Eng.Heap} {a a' : Option Addr} {el : TypeId} {s len cap m m0 : Nat} {vs : List Value} (A : App h h' a a') (O : OwnV m h el s a len cap vs) (hm : m0 ≤ m) (hh : m0 ≤ h.size) : RB m0 h h' :=
  ⟨A.size, fun b hb => A.old b (by omega) fun p hp => by have := (O.lt hp).2; omega⟩
theorem OwnV.apart {h : Eng.Heap} {a : Option Addr} {el ct : TypeId} {s len cap m b : Nat} {vs : List Value} {c : Array Value} {fr : Nat × Nat} (O : OwnV m h el s a len cap vs) (T : h[b]? = some (.cells c ct fr)) (hne : ct ≠ el) : ∀ p, a = some p → p.block ≠ b := by
  rintro p hp rfl
  rcases O.ok with ⟨h1, _⟩ | ⟨g, cur, h1, _, h3, _⟩
  · rw [h1] at hp; cases hp
  · rw [h1] at hp
    cases hp
    rw [h3] at T
    cases T
    exact hne rfl
theorem gd_none {P : Program} {s : Tmp} {w : Bool} {op : Op} {ty : TypeId} {all rest : List Oper} {k : Cont} {dst : Option Tmp} {e : Env} {d : List Deferred} {h : Eng.Heap} : gd P undef s w op ty all rest k dst e d h = execR P all rest k (putE e dst undef) d h := gd_undef
theorem back8 (acc cl : Int) (a : Option Addr) (n c : Nat) (es : List En) (which on number : Int) (h : Eng.Heap) (hr : Row h a (ensV es)) (hn : n = es.length ∧ n ≤ c) (hw : 0 ≤ which ∧ which ≤ 255) (ho : 0 ≤ on ∧ on ≤ 255) (hnum : 0 ≤ number ∧ number ≤ 255) :
    CallsH Tryz.prog 8 #[.agg #[.int .i64 acc, .int .i64 cl, .slice a n c], .int .u8 which, .int .u8 on, .int .u8 number] h (fun v h' => v = .bool true ∧ Ext h h') := by
  obtain ⟨hn, hcap⟩ := hn
  refine CallsH_of_exec Tryz.func8 rfl bod8 ?_
  simp only [Tryz.ntmps8, Tryz.results8, coreS, stK_some, splice, Value.cells, Value.oneCell', Nat.reduceAdd, Nat.reduceSub, Nat.reduceMul, Nat.reduceLeDiff, Int.reduceEq, Nat.reduceEqDiff, E4Fs8]
  refine CallsH.mono (fine42 acc cl a n c es _ (hr.push _) hn) ?_
  rintro v h1 ⟨rfl, x1⟩
  have hb1 := x1.get (push_new (h := h))
  have y1 := x1.of_push
  have works : ∀ {h2 : Eng.Heap}, Ext h h2 → CallsH Tryz.prog 18 #[] h2 (fun v h' => v = .bool true ∧ Ext h h') := fun x => CallsH.mono (works18 _) fun v h' q => ⟨q.1, x.trans q.2⟩
  by_cases hc : chk acc cl es = 0
  · obtain ⟨hac, hl20, hcl, hok, hso, hft⟩ := chk_ok hc
    have hl : n ≤ 1000000 := by omega
    by_cases hn0 : (n : Int) = 0
    · simp only [hc, hb1, hn0, decide_true, Bool.not_true, coreS, Value.cells, Value.oneCell', Nat.reduceAdd, Nat.reduceSub, Nat.reduceMul, Nat.reduceLeDiff, Int.reduceEq, Nat.reduceEqDiff, E4Fs8]
      refine CallsH.mono (works y1) ?_
      rintro v h2 ⟨rfl, x2⟩
      simp only [coreS, Value.cells, Value.oneCell', Nat.reduceAdd, Nat.reduceSub, Nat.reduceMul, Nat.reduceLeDiff, Int.reduceEq, Nat.reduceEqDiff, E4Fs8]
      exact x2
    obtain ⟨u, rfl⟩ : ∃ u : Nat, acc = u := ⟨acc.toNat, by omega⟩
    obtain ⟨k, hk⟩ : ∃ k : Nat, which.tmod n = k := ⟨(which.tmod n).toNat, by
      rw [Int.tmod_eq_emod_of_nonneg hw.1]
      have := Int.emod_nonneg which hn0
      omega⟩
    have hkn : k < es.length := by
      have := Int.emod_lt_of_pos which (show (0 : Int) < n by omega)
      rw [Int.tmod_eq_emod_of_nonneg hw.1] at hk
      omega
    obtain ⟨day, hday⟩ : ∃ d, d = on.tmod 31 := ⟨_, rfl⟩
    have hd30 : 0 ≤ day ∧ day ≤ 30 := by subst hday; rw [Int.tmod_eq_emod_of_nonneg ho.1]; omega
    obtain ⟨q, hq⟩ : ∃ d, d = number.tmod 31 := ⟨_, rfl⟩
    have hq30 : 0 ≤ q ∧ q ≤ 30 := by subst hq; rw [Int.tmod_eq_emod_of_nonneg hnum.1]; omega
    have hsm : a.isSome = true := hr.isSome (by rw [ensV_length]; omega)
    simp only [hc, hb1, hn0, decide_true, decide_false, Bool.not_true, coreS, Value.cells, Value.oneCell', Nat.reduceAdd, Nat.reduceSub, Nat.reduceMul, Nat.reduceLeDiff, Int.reduceEq, Nat.reduceEqDiff, E4Fs8]
    refine WP_draw (by kernel_rfl) sta_ext [(0, 0), (1, 0), (2, 0), (3, 0), (4, 0), (5, 0), (6, 0), (7, 0), (8, 0), (9, 0)] (by kernel_rfl) rfl (by kernel_rfl) ?_
    simp only [hb1, hk, coreS, Value.cells, Value.oneCell', Nat.reduceAdd, Nat.reduceSub, Nat.reduceMul, Nat.reduceLeDiff, Int.reduceEq, Nat.reduceEqDiff, drawS, E4Fs8]
    refine ⟨by rw [inK_i64]; omega, hn0, ?_⟩
    refine cQ_ext _ (fun h' x' => CallsH.mono (day43 on h' ho) fun v h'' q => ⟨q.1, by rw [q.2]; exact Ext.refl _⟩) ?_
    rw [← hday]
    simp only [coreS, Value.cells, Value.oneCell', Nat.reduceAdd, Nat.reduceSub, Nat.reduceMul, Nat.reduceLeDiff, Int.reduceEq, Nat.reduceEqDiff, drawS, E4Fs8]
    refine hvK_mk fun h2 x2 => ?_
    have hb2 := x2.get hb1
    have y2 := y1.trans x2
    have hce := rowE (hr.ext y2) hkn
    simp only [hb2, hce, Int.toNat_natCast, coreS, Value.cells, Value.oneCell', Nat.reduceAdd, Nat.reduceSub, Nat.reduceMul, Nat.reduceLeDiff, Int.reduceEq, Nat.reduceEqDiff, E4Fs8]
    refine ⟨by omega, hsm, ?_⟩
    simp only [Nat.ne_of_lt (lt_of_get hb2), hb2, if_false, coreS, stK_some, splice, Value.cells, Value.oneCell', Nat.reduceAdd, Nat.reduceSub, Nat.reduceMul, Nat.reduceLeDiff, Int.reduceEq, Nat.reduceEqDiff, E4Fs8]
    have z2 := y2.push (.cells #[.int .i64 es[k].d, .int .i64 es[k].f, .int .i64 es[k].t, .int .i64 es[k].a] 26)
    have b2 := push_old (o := .cells #[.int .i64 es[k].d, .int .i64 es[k].f, .int .i64 es[k].t, .int .i64 es[k].a] 26) hb2
    have e2 := push_new (h := h2) (o := .cells #[.int .i64 es[k].d, .int .i64 es[k].f, .int .i64 es[k].t, .int .i64 es[k].a] 26)
    refine CallsH.mono (back21 u cl a n c es k day _ (hr.ext z2) hn hl) ?_
    rintro v h3 ⟨⟨a3, n3, c3, rfl, r3, l3, _⟩, x3⟩
    have hb3 := x3.get b2
    have he3 := x3.get e2
    have y3 := z2.trans x3
    have b3 := push_old (o := .cells #[.int .i64 (bckA u cl es k day), .int .i64 (bckC u cl es k day), .slice a3 n3 c3] 24) hb3
    have e3 := push_old (o := .cells #[.int .i64 (bckA u cl es k day), .int .i64 (bckC u cl es k day), .slice a3 n3 c3] 24) he3
    have x3c := push_new (h := h3) (o := .cells #[.int .i64 (bckA u cl es k day), .int .i64 (bckC u cl es k day), .slice a3 n3 c3] 24)
    have z3 := y3.push (.cells #[.int .i64 (bckA u cl es k day), .int .i64 (bckC u cl es k day), .slice a3 n3 c3] 24)
    have r3' := r3.push (.cells #[.int .i64 (bckA u cl es k day), .int .i64 (bckC u cl es k day), .slice a3 n3 c3] 24)
    simp only [coreS, stK_some, splice, Value.cells, Value.oneCell', Nat.reduceAdd, Nat.reduceSub, Nat.reduceMul, Nat.reduceLeDiff, Int.reduceEq, Nat.reduceEqDiff, E4Fs8]
    by_cases hb : bck u cl es k day = 0
    · obtain ⟨_, _, hbd, hpp, eA, eC, eL⟩ := bck_ok hb
      rw [bkX_at hkn] at hbd
      rw [eA, eC] at b3 e3 x3c z3 r3'
      rw [eL] at r3' l3
      have hcx := chk_pstX (e := bkE es k day) hc
      have hlx := (chk_ok hcx).2.1
      have hlen : (n3 : Int) = (n : Int) + 1 := by rw [l3, pstX, if_pos hpp, ins_length]; omega
      simp only [hb, eA, eC, decide_true, Bool.not_true, coreS, Value.cells, Value.oneCell', Nat.reduceAdd, Nat.reduceSub, Nat.reduceMul, Nat.reduceLeDiff, Int.reduceEq, Nat.reduceEqDiff, E4Fs8]
      refine CallsH.mono (fine42 u cl a3 n3 c3 _ _ r3' l3) ?_
      rintro v h4 ⟨rfl, x4⟩
      have b4 := x4.get b3
      have f4 := x4.get x3c
      have y4 := z3.trans x4
      have r4 := r3'.ext x4
      simp only [hcx, b4, f4, hlen, decide_true, Bool.not_true, coreS, Value.cells, Value.oneCell', Nat.reduceAdd, Nat.reduceSub, Nat.reduceMul, Nat.reduceLeDiff, Int.reduceEq, Nat.reduceEqDiff, E4Fs8]
      refine ⟨by rw [inK_i64]; omega, ?_⟩
      obtain ⟨g0, off, rfl⟩ := Row.addr hr (by rw [ensV_length]; omega)
      refine WP_treeB (by kernel_rfl) (h4.size) (.pure 0 (.load 1 (.pure 2 (.load 3 (.pure 5 (.load 6 (.pure 7 (.pure 8 (.pure 10 (.load 11 (.pure 12 (.pure 13 (.pure 14 (.fork 4 17 (.fork 9 17 (.fork 15 17 (.pure 16 (.keep 17 (.keep 18 (.fin)))) (.keep 15 (.pure 16 (.keep 18 (.fin))))) (.keep 9 (.keep 15 (.pure 16 (.keep 18 (.fin)))))) (.keep 4 (.keep 9 (.keep 15 (.pure 16 (.keep 18 (.fin)))))))))))))))))))) (by kernel_rfl) rfl (by kernel_rfl) ?_
      have t1 : ((k : Int) - ((0 : Nat) : Int)).toNat = k := by omega
      have lt4 := lt_of_get b4
      simp only [b4, hk, t1, coreS, Value.cells, Value.oneCell', Nat.reduceAdd, Nat.reduceSub, Nat.reduceMul, Nat.reduceLeDiff, Int.reduceEq, Nat.reduceEqDiff, drawS, treeS, treeB, E4Fs8]
      simp only [eltP_zero, ite_self, t1, Nat.zero_mul, Nat.add_zero]
      have srcT : ∀ {hh : Eng.Heap}, Ext h hh → Row hh (some ⟨g0, off, none⟩) (ensV (es.take k)) := fun {hh} x => by
        have := (hr.ext x).take (k * 4)
        rwa [ensV_take] at this
      have srcD : ∀ {hh : Eng.Heap}, Ext h hh → Row hh (if (c : Int) = (k : Int) + 1 then (some ⟨g0, off, none⟩) else some ⟨g0, off + (k + 1) * 4, none⟩) (ensV (es.drop (k + 1))) := fun {hh} x => by
        split
        · rw [List.drop_of_length_le (by omega)]; exact .inl rfl
        · have := (hr.ext x).sub ((k + 1) * 4) ((n - (k + 1)) * 4) (by rw [ensV_length]; omega)
          rw [ensV_drop, List.take_of_length_le (by rw [ensV_length, List.length_drop]; omega)] at this
          rw [eltP_some] at this
          exact this
      have hlk : (es.take k).length = k := by rw [List.length_take]; omega
      have t2 : ((n : Int) - ((k : Int) + 1)).toNat = n - (k + 1) := by omega
      have t3 : ((k : Int) + 1).toNat = k + 1 := by omega
      refine ⟨by omega, by omega, by omega, by omega, by omega, by omega, by omega, by omega, by rw [inK_i64]; omega, by omega, by omega, by omega, by omega, ?_⟩
      simp only [t2, t3, eltP_some]
      try simp only [splice, coreS, Value.cells, Value.oneCell', Nat.reduceAdd, Nat.reduceSub, Nat.reduceMul, Nat.reduceLeDiff, Int.reduceEq, Nat.reduceEqDiff, drawS, treeS, treeB, E4Fs8]
      refine execB_fork ?_ ?_
      · simp only [splice, coreS, Value.cells, Value.oneCell', Nat.reduceAdd, Nat.reduceSub, Nat.reduceMul, Nat.reduceLeDiff, Int.reduceEq, Nat.reduceEqDiff, drawS, treeS, treeB, E4Fs8]
        refine ⟨by omega, RB.of_ext ((Ext.refl _).push _) (RB.refl h4.size h4).1, ?_⟩
        have X21 := (RB.refl h4.size h4).trans (RB.of_ext (m := h4.size) ((Ext.refl h4).push (.cells #[] 26)) (RB.refl h4.size h4).1)
        have q21 : (Array.push h4 (.cells #[] 26))[h4.size]? = some (.cells #[] 26) := by rw [Array.getElem?_push, if_pos (by simp)]
        have e21 : h4.size ≤ h4.size := by have := (RB.refl h4.size h4).1; (try simp only [push_size] at this); omega
        try simp only [splice, coreS, Value.cells, Value.oneCell', Nat.reduceAdd, Nat.reduceSub, Nat.reduceMul, Nat.reduceLeDiff, Int.reduceEq, Nat.reduceEqDiff, drawS, treeS, treeB, E4Fs8]
        refine execB_fork ?_ ?_
        · simp only [splice, coreS, Value.cells, Value.oneCell', Nat.reduceAdd, Nat.reduceSub, Nat.reduceMul, Nat.reduceLeDiff, Int.reduceEq, Nat.reduceEqDiff, drawS, treeS, treeB, E4Fs8]
          refine apf22 rfl rfl q21 (srcT (y4.trans X21.ext)) hlk (by omega) fun a22 c22 h22 P22 x22 => ⟨RB.of_ext x22 X21.1, ?_⟩
          have O22 := P22.mono e21
          have X22 := X21.trans (RB.of_ext x22 X21.1)
          try simp only [splice, coreS, Value.cells, Value.oneCell', Nat.reduceAdd, Nat.reduceSub, Nat.reduceMul, Nat.reduceLeDiff, Int.reduceEq, Nat.reduceEqDiff, drawS, treeS, treeB, E4Fs8]
          refine execB_fork ?_ ?_
          · simp only [splice, coreS, Value.cells, Value.oneCell', Nat.reduceAdd, Nat.reduceSub, Nat.reduceMul, Nat.reduceLeDiff, Int.reduceEq, Nat.reduceEqDiff, drawS, treeS, treeB, E4Fs8]
            refine app22e rfl rfl O22 X22.1 (srcD (y4.trans X22.ext)) (by rw [List.length_drop]; omega) (by omega) fun a23 c23 h23 O23 A23 => ⟨App.rb A23 O22 (Nat.le_refl _) X22.1, ?_⟩
            have X23 := X22.trans (App.rb A23 O22 (Nat.le_refl _) X22.1)
            try simp only [splice, coreS, Value.cells, Value.oneCell', Nat.reduceAdd, Nat.reduceSub, Nat.reduceMul, Nat.reduceLeDiff, Int.reduceEq, Nat.reduceEqDiff, drawS, treeS, treeB, E4Fs8]
            refine execB_keep ?_
            simp only [splice, coreS, Value.cells, Value.oneCell', Nat.reduceAdd, Nat.reduceSub, Nat.reduceMul, Nat.reduceLeDiff, Int.reduceEq, Nat.reduceEqDiff, drawS, treeS, treeB, E4Fs8]
            refine ⟨RB.of_ext ((Ext.refl _).push _) X23.1, ?_⟩
            have X24 := X23.trans (RB.of_ext (m := h4.size) ((Ext.refl h23).push (.cells #[.int .i64 0, .int .i64 0, .slice none 0 0] 24)) X23.1)
            have T24 : (Array.push h23 (.cells #[.int .i64 0, .int .i64 0, .slice none 0 0] 24))[h23.size]? = some (.cells #[.int .i64 0, .int .i64 0, .slice none 0 0] 24) := by rw [Array.getElem?_push, if_pos (by simp)]
            have O24 := O23.ext ((Ext.refl h23).push (.cells #[.int .i64 0, .int .i64 0, .slice none 0 0] 24))
            have g24 : h4.size ≤ h23.size := by have := X23.1; (try simp only [push_size] at this); omega
            try simp only [splice, coreS, Value.cells, Value.oneCell', Nat.reduceAdd, Nat.reduceSub, Nat.reduceMul, Nat.reduceLeDiff, Int.reduceEq, Nat.reduceEqDiff, drawS, treeS, treeB, E4Fs8]
            refine execB_keep ?_
            have T0 := T24
            try simp only [T0, coreS, Value.cells, Value.oneCell', Nat.reduceAdd, Nat.reduceSub, Nat.reduceMul, Nat.reduceLeDiff, Int.reduceEq, Nat.reduceEqDiff, drawS, treeS, treeB, E4Fs8]
            refine stK_abs T0 (by simp) fun h25 g25 u25 => ?_
            simp only [splice] at g25
            have uu := RB.of_upd (m := h4.size) u25 (by have := g24; omega)
            refine ⟨uu, ?_⟩
            have XF := X24.trans uu
            have TF := g25
            have OF := O24.keep (h' := h25) (fun p hp => u25.old _ (OwnV.apart O24 T0 (by decide) p hp))
            have RF := OF.row
            rw [← show wo es k = es.take k ++ es.drop (k + 1) from rfl] at RF
            have LF : k + (n - (k + 1)) = (wo es k).length := by rw [wo, List.length_append, List.length_take, List.length_drop]; omega
            try simp only [coreS, Value.cells, Value.oneCell', Nat.reduceAdd, Nat.reduceSub, Nat.reduceMul, Nat.reduceLeDiff, Int.reduceEq, Nat.reduceEqDiff, drawS, treeS, treeB, E4Fs8]
            have YF := y4.trans XF.ext
            try simp only [coreS, Value.cells, Value.oneCell', Nat.reduceAdd, Nat.reduceSub, Nat.reduceMul, Nat.reduceLeDiff, Int.reduceEq, Nat.reduceEqDiff, E4Fs8]
            refine CallsH.mono (day43 number _ hnum) ?_
            rintro v hG ⟨rfl, rfl⟩
            rw [← hq]
            simp only [XF.ext.get f4, coreS, Value.cells, Value.oneCell', Nat.reduceAdd, Nat.reduceSub, Nat.reduceMul, Nat.reduceLeDiff, Int.reduceEq, Nat.reduceEqDiff, E4Fs8]
            refine CallsH.mono (balances45 u cl a3 n3 c3 _ q _ (r4.ext XF.ext) l3 (by omega)) ?_
            rintro v hI ⟨⟨bI, mI, cI, rfl, II, hmI⟩, xI⟩
            rw [balsR_ok hcx hq30, Int.toNat_natCast, bals_back u hkn hpp hbd] at II
            simp only [xI.get (XF.ext.get b4), coreS, Value.cells, Value.oneCell', Nat.reduceAdd, Nat.reduceSub, Nat.reduceMul, Nat.reduceLeDiff, Int.reduceEq, Nat.reduceEqDiff, E4Fs8]
            refine CallsH.mono (balances45 u cl _ n c es q _ (hr.ext (YF.trans xI)) hn hl) ?_
            rintro v hJ ⟨⟨bJ, mJ, cJ, rfl, IJ, hmJ⟩, xJ⟩
            rw [balsR_ok hc hq30, Int.toNat_natCast] at IJ
            have xIJ := xI.trans xJ
            by_cases hat : day ≤ q
            · rw [if_pos hat] at II
              have hcw := chk_wo (k := k) hc
              have hlw := (wo_sub (es := es) (k := k)).length_le
              simp only [hat, xIJ.get TF, decide_true, coreS, Value.cells, Value.oneCell', Nat.reduceAdd, Nat.reduceSub, Nat.reduceMul, Nat.reduceLeDiff, Int.reduceEq, Nat.reduceEqDiff, E4Fs8]
              refine CallsH.mono (balances45 u cl _ _ _ (wo es k) q _ (RF.ext xIJ) LF (by omega)) ?_
              rintro v hK ⟨⟨bK, mK, cK, rfl, IK, hmK⟩, xK⟩
              rw [balsR_ok hcw hq30, Int.toNat_natCast] at IK
              simp only [opn_of hcx hq30, opn_of hcw hq30, decide_true, coreS, Value.cells, Value.oneCell', Nat.reduceAdd, Nat.reduceSub, Nat.reduceMul, Nat.reduceLeDiff, Int.reduceEq, Nat.reduceEqDiff, E4Fs8]
              refine CallsH.mono (longs32 bI bK mI cI mK cK _ _ _ (II.ext (xJ.trans xK)) IK (by omega) (by omega)) ?_
              rintro v hL ⟨rfl, rfl⟩
              simp only [decide_true, coreS, Value.cells, Value.oneCell', Nat.reduceAdd, Nat.reduceSub, Nat.reduceMul, Nat.reduceLeDiff, Int.reduceEq, Nat.reduceEqDiff, E4Fs8]
              refine CallsH.mono (works (YF.trans (xIJ.trans xK))) ?_
              rintro v hM ⟨rfl, xM⟩
              simp only [coreS, Value.cells, Value.oneCell', Nat.reduceAdd, Nat.reduceSub, Nat.reduceMul, Nat.reduceLeDiff, Int.reduceEq, Nat.reduceEqDiff, E4Fs8]
              exact xM
            · rw [if_neg hat] at II
              simp only [hat, opn_of hcx hq30, opn_of hc hq30, decide_true, decide_false, coreS, Value.cells, Value.oneCell', Nat.reduceAdd, Nat.reduceSub, Nat.reduceMul, Nat.reduceLeDiff, Int.reduceEq, Nat.reduceEqDiff, E4Fs8]
              refine CallsH.mono (longs32 bI bJ mI cI mJ cJ _ _ _ (II.ext xJ) IJ (by omega) (by omega)) ?_
              rintro v hL ⟨rfl, rfl⟩
              simp only [decide_true, coreS, Value.cells, Value.oneCell', Nat.reduceAdd, Nat.reduceSub, Nat.reduceMul, Nat.reduceLeDiff, Int.reduceEq, Nat.reduceEqDiff, E4Fs8]
              refine CallsH.mono (works (YF.trans xIJ)) ?_
              rintro v hM ⟨rfl, xM⟩
              simp only [coreS, Value.cells, Value.oneCell', Nat.reduceAdd, Nat.reduceSub, Nat.reduceMul, Nat.reduceLeDiff, Int.reduceEq, Nat.reduceEqDiff, E4Fs8]
              exact xM
          · simp only [splice, coreS, Value.cells, Value.oneCell', Nat.reduceAdd, Nat.reduceSub, Nat.reduceMul, Nat.reduceLeDiff, Int.reduceEq, Nat.reduceEqDiff, drawS, treeS, treeB, E4Fs8]
            refine ⟨RB.of_ext ((Ext.refl _).push _) X22.1, ?_⟩
            have X26 := X22.trans (RB.of_ext (m := h4.size) ((Ext.refl h22).push (.cells #[.int .i64 0, .int .i64 0, .slice none 0 0] 24)) X22.1)
            have T26 : (Array.push h22 (.cells #[.int .i64 0, .int .i64 0, .slice none 0 0] 24))[h22.size]? = some (.cells #[.int .i64 0, .int .i64 0, .slice none 0 0] 24) := by rw [Array.getElem?_push, if_pos (by simp)]
            have O26 := O22.ext ((Ext.refl h22).push (.cells #[.int .i64 0, .int .i64 0, .slice none 0 0] 24))
            have g26 : h4.size ≤ h22.size := by have := X22.1; (try simp only [push_size] at this); omega
            try simp only [splice, coreS, Value.cells, Value.oneCell', Nat.reduceAdd, Nat.reduceSub, Nat.reduceMul, Nat.reduceLeDiff, Int.reduceEq, Nat.reduceEqDiff, drawS, treeS, treeB, E4Fs8]
            refine execB_keep ?_
            simp only [splice, coreS, Value.cells, Value.oneCell', Nat.reduceAdd, Nat.reduceSub, Nat.reduceMul, Nat.reduceLeDiff, Int.reduceEq, Nat.reduceEqDiff, drawS, treeS, treeB, E4Fs8]
            refine app22e rfl rfl O26 X26.1 (srcD (y4.trans X26.ext)) (by rw [List.length_drop]; omega) (by omega) fun a27 c27 h27 O27 A27 => ⟨App.rb A27 O26 (Nat.le_refl _) X26.1, ?_⟩
            have X27 := X26.trans (App.rb A27 O26 (Nat.le_refl _) X26.1)
            have T27 := (A27.old _ (lt_of_get T26) (OwnV.apart O26 T26 (by decide))).trans T26
            try simp only [splice, coreS, Value.cells, Value.oneCell', Nat.reduceAdd, Nat.reduceSub, Nat.reduceMul, Nat.reduceLeDiff, Int.reduceEq, Nat.reduceEqDiff, drawS, treeS, treeB, E4Fs8]
            refine execB_keep ?_
            have T0 := T27
            try simp only [T0, coreS, Value.cells, Value.oneCell', Nat.reduceAdd, Nat.reduceSub, Nat.reduceMul, Nat.reduceLeDiff, Int.reduceEq, Nat.reduceEqDiff, drawS, treeS, treeB, E4Fs8]
            refine stK_abs T0 (by simp) fun h28 g28 u28 => ?_
            simp only [splice] at g28
            have uu := RB.of_upd (m := h4.size) u28 (by have := g26; omega)
            refine ⟨uu, ?_⟩
            have XF := X27.trans uu
            have TF := g28
            have OF := O27.keep (h' := h28) (fun p hp => u28.old _ (OwnV.apart O27 T0 (by decide) p hp))
            have RF := OF.row
            rw [← show wo es k = es.take k ++ es.drop (k + 1) from rfl] at RF
            have LF : k + (n - (k + 1)) = (wo es k).length := by rw [wo, List.length_append, List.length_take, List.length_drop]; omega
            try simp only [coreS, Value.cells, Value.oneCell', Nat.reduceAdd, Nat.reduceSub, Nat.reduceMul, Nat.reduceLeDiff, Int.reduceEq, Nat.reduceEqDiff, drawS, treeS, treeB, E4Fs8]
            have YF := y4.trans XF.ext
            try simp only [coreS, Value.cells, Value.oneCell', Nat.reduceAdd, Nat.reduceSub, Nat.reduceMul, Nat.reduceLeDiff, Int.reduceEq, Nat.reduceEqDiff, E4Fs8]
            refine CallsH.mono (day43 number _ hnum) ?_
            rintro v hG ⟨rfl, rfl⟩
            rw [← hq]
            simp only [XF.ext.get f4, coreS, Value.cells, Value.oneCell', Nat.reduceAdd, Nat.reduceSub, Nat.reduceMul, Nat.reduceLeDiff, Int.reduceEq, Nat.reduceEqDiff, E4Fs8]
            refine CallsH.mono (balances45 u cl a3 n3 c3 _ q _ (r4.ext XF.ext) l3 (by omega)) ?_
            rintro v hI ⟨⟨bI, mI, cI, rfl, II, hmI⟩, xI⟩
            rw [balsR_ok hcx hq30, Int.toNat_natCast, bals_back u hkn hpp hbd] at II
            simp only [xI.get (XF.ext.get b4), coreS, Value.cells, Value.oneCell', Nat.reduceAdd, Nat.reduceSub, Nat.reduceMul, Nat.reduceLeDiff, Int.reduceEq, Nat.reduceEqDiff, E4Fs8]
            refine CallsH.mono (balances45 u cl _ n c es q _ (hr.ext (YF.trans xI)) hn hl) ?_
            rintro v hJ ⟨⟨bJ, mJ, cJ, rfl, IJ, hmJ⟩, xJ⟩
            rw [balsR_ok hc hq30, Int.toNat_natCast] at IJ
            have xIJ := xI.trans xJ
            by_cases hat : day ≤ q
            · rw [if_pos hat] at II
              have hcw := chk_wo (k := k) hc
              have hlw := (wo_sub (es := es) (k := k)).length_le
              simp only [hat, xIJ.get TF, decide_true, coreS, Value.cells, Value.oneCell', Nat.reduceAdd, Nat.reduceSub, Nat.reduceMul, Nat.reduceLeDiff, Int.reduceEq, Nat.reduceEqDiff, E4Fs8]
              refine CallsH.mono (balances45 u cl _ _ _ (wo es k) q _ (RF.ext xIJ) LF (by omega)) ?_
              rintro v hK ⟨⟨bK, mK, cK, rfl, IK, hmK⟩, xK⟩
              rw [balsR_ok hcw hq30, Int.toNat_natCast] at IK
              simp only [opn_of hcx hq30, opn_of hcw hq30, decide_true, coreS, Value.cells, Value.oneCell', Nat.reduceAdd, Nat.reduceSub, Nat.reduceMul, Nat.reduceLeDiff, Int.reduceEq, Nat.reduceEqDiff, E4Fs8]
              refine CallsH.mono (longs32 bI bK mI cI mK cK _ _ _ (II.ext (xJ.trans xK)) IK (by omega) (by omega)) ?_
              rintro v hL ⟨rfl, rfl⟩
              simp only [decide_true, coreS, Value.cells, Value.oneCell', Nat.reduceAdd, Nat.reduceSub, Nat.reduceMul, Nat.reduceLeDiff, Int.reduceEq, Nat.reduceEqDiff, E4Fs8]
              refine CallsH.mono (works (YF.trans (xIJ.trans xK))) ?_
              rintro v hM ⟨rfl, xM⟩
              simp only [coreS, Value.cells, Value.oneCell', Nat.reduceAdd, Nat.reduceSub, Nat.reduceMul, Nat.reduceLeDiff, Int.reduceEq, Nat.reduceEqDiff, E4Fs8]
              exact xM
            · rw [if_neg hat] at II
              simp only [hat, opn_of hcx hq30, opn_of hc hq30, decide_true, decide_false, coreS, Value.cells, Value.oneCell', Nat.reduceAdd, Nat.reduceSub, Nat.reduceMul, Nat.reduceLeDiff, Int.reduceEq, Nat.reduceEqDiff, E4Fs8]
              refine CallsH.mono (longs32 bI bJ mI cI mJ cJ _ _ _ (II.ext xJ) IJ (by omega) (by omega)) ?_
              rintro v hL ⟨rfl, rfl⟩
              simp only [decide_true, coreS, Value.cells, Value.oneCell', Nat.reduceAdd, Nat.reduceSub, Nat.reduceMul, Nat.reduceLeDiff, Int.reduceEq, Nat.reduceEqDiff, E4Fs8]
              refine CallsH.mono (works (YF.trans xIJ)) ?_
              rintro v hM ⟨rfl, xM⟩
              simp only [coreS, Value.cells, Value.oneCell', Nat.reduceAdd, Nat.reduceSub, Nat.reduceMul, Nat.reduceLeDiff, Int.reduceEq, Nat.reduceEqDiff, E4Fs8]
              exact xM
        · simp only [splice, coreS, Value.cells, Value.oneCell', Nat.reduceAdd, Nat.reduceSub, Nat.reduceMul, Nat.reduceLeDiff, Int.reduceEq, Nat.reduceEqDiff, drawS, treeS, treeB, E4Fs8]
          refine ⟨RB.of_ext ((Ext.refl _).push _) X21.1, ?_⟩
          have X29 := X21.trans (RB.of_ext (m := h4.size) ((Ext.refl (Array.push h4 (.cells #[] 26))).push (.cells #[.int .i64 0, .int .i64 0, .slice none 0 0] 24)) X21.1)
          have T29 : (Array.push (Array.push h4 (.cells #[] 26)) (.cells #[.int .i64 0, .int .i64 0, .slice none 0 0] 24))[h4.size + 1]? = some (.cells #[.int .i64 0, .int .i64 0, .slice none 0 0] 24) := by rw [Array.getElem?_push, if_pos (by simp)]
          have q29 := push_old (o := .cells #[.int .i64 0, .int .i64 0, .slice none 0 0] 24) q21
          have g29 : h4.size ≤ h4.size + 1 := by have := X21.1; (try simp only [push_size] at this); omega
          try simp only [splice, coreS, Value.cells, Value.oneCell', Nat.reduceAdd, Nat.reduceSub, Nat.reduceMul, Nat.reduceLeDiff, Int.reduceEq, Nat.reduceEqDiff, drawS, treeS, treeB, E4Fs8]
          refine execB_keep ?_
          simp only [splice, coreS, Value.cells, Value.oneCell', Nat.reduceAdd, Nat.reduceSub, Nat.reduceMul, Nat.reduceLeDiff, Int.reduceEq, Nat.reduceEqDiff, drawS, treeS, treeB, E4Fs8]
          refine apf22 rfl rfl q29 (srcT (y4.trans X29.ext)) hlk (by omega) fun a30 c30 h30 P30 x30 => ⟨RB.of_ext x30 X29.1, ?_⟩
          have O30 := P30.mono e21
          have X30 := X29.trans (RB.of_ext x30 X29.1)
          have T30 := x30.get T29
          try simp only [splice, coreS, Value.cells, Value.oneCell', Nat.reduceAdd, Nat.reduceSub, Nat.reduceMul, Nat.reduceLeDiff, Int.reduceEq, Nat.reduceEqDiff, drawS, treeS, treeB, E4Fs8]
          refine execB_keep ?_
          simp only [splice, coreS, Value.cells, Value.oneCell', Nat.reduceAdd, Nat.reduceSub, Nat.reduceMul, Nat.reduceLeDiff, Int.reduceEq, Nat.reduceEqDiff, drawS, treeS, treeB, E4Fs8]
          refine app22e rfl rfl O30 X30.1 (srcD (y4.trans X30.ext)) (by rw [List.length_drop]; omega) (by omega) fun a31 c31 h31 O31 A31 => ⟨App.rb A31 O30 (Nat.le_refl _) X30.1, ?_⟩
          have X31 := X30.trans (App.rb A31 O30 (Nat.le_refl _) X30.1)
          have T31 := (A31.old _ (lt_of_get T30) (OwnV.apart O30 T30 (by decide))).trans T30
          try simp only [splice, coreS, Value.cells, Value.oneCell', Nat.reduceAdd, Nat.reduceSub, Nat.reduceMul, Nat.reduceLeDiff, Int.reduceEq, Nat.reduceEqDiff, drawS, treeS, treeB, E4Fs8]
          refine execB_keep ?_
          have T0 := T31
          try simp only [T0, coreS, Value.cells, Value.oneCell', Nat.reduceAdd, Nat.reduceSub, Nat.reduceMul, Nat.reduceLeDiff, Int.reduceEq, Nat.reduceEqDiff, drawS, treeS, treeB, E4Fs8]
          refine stK_abs T0 (by simp) fun h32 g32 u32 => ?_
          simp only [splice] at g32
          have uu := RB.of_upd (m := h4.size) u32 (by have := g29; omega)
          refine ⟨uu, ?_⟩
          have XF := X31.trans uu
          have TF := g32
          have OF := O31.keep (h' := h32) (fun p hp => u32.old _ (OwnV.apart O31 T0 (by decide) p hp))
          have RF := OF.row
          rw [← show wo es k = es.take k ++ es.drop (k + 1) from rfl] at RF
          have LF : k + (n - (k + 1)) = (wo es k).length := by rw [wo, List.length_append, List.length_take, List.length_drop]; omega
          try simp only [coreS, Value.cells, Value.oneCell', Nat.reduceAdd, Nat.reduceSub, Nat.reduceMul, Nat.reduceLeDiff, Int.reduceEq, Nat.reduceEqDiff, drawS, treeS, treeB, E4Fs8]
          have YF := y4.trans XF.ext
          try simp only [coreS, Value.cells, Value.oneCell', Nat.reduceAdd, Nat.reduceSub, Nat.reduceMul, Nat.reduceLeDiff, Int.reduceEq, Nat.reduceEqDiff, E4Fs8]
          refine CallsH.mono (day43 number _ hnum) ?_
          rintro v hG ⟨rfl, rfl⟩
          rw [← hq]
          simp only [XF.ext.get f4, coreS, Value.cells, Value.oneCell', Nat.reduceAdd, Nat.reduceSub, Nat.reduceMul, Nat.reduceLeDiff, Int.reduceEq, Nat.reduceEqDiff, E4Fs8]
          refine CallsH.mono (balances45 u cl a3 n3 c3 _ q _ (r4.ext XF.ext) l3 (by omega)) ?_
          rintro v hI ⟨⟨bI, mI, cI, rfl, II, hmI⟩, xI⟩
          rw [balsR_ok hcx hq30, Int.toNat_natCast, bals_back u hkn hpp hbd] at II
          simp only [xI.get (XF.ext.get b4), coreS, Value.cells, Value.oneCell', Nat.reduceAdd, Nat.reduceSub, Nat.reduceMul, Nat.reduceLeDiff, Int.reduceEq, Nat.reduceEqDiff, E4Fs8]
          refine CallsH.mono (balances45 u cl _ n c es q _ (hr.ext (YF.trans xI)) hn hl) ?_
          rintro v hJ ⟨⟨bJ, mJ, cJ, rfl, IJ, hmJ⟩, xJ⟩
          rw [balsR_ok hc hq30, Int.toNat_natCast] at IJ
          have xIJ := xI.trans xJ
          by_cases hat : day ≤ q
          · rw [if_pos hat] at II
            have hcw := chk_wo (k := k) hc
            have hlw := (wo_sub (es := es) (k := k)).length_le
            simp only [hat, xIJ.get TF, decide_true, coreS, Value.cells, Value.oneCell', Nat.reduceAdd, Nat.reduceSub, Nat.reduceMul, Nat.reduceLeDiff, Int.reduceEq, Nat.reduceEqDiff, E4Fs8]
            refine CallsH.mono (balances45 u cl _ _ _ (wo es k) q _ (RF.ext xIJ) LF (by omega)) ?_
            rintro v hK ⟨⟨bK, mK, cK, rfl, IK, hmK⟩, xK⟩
            rw [balsR_ok hcw hq30, Int.toNat_natCast] at IK
            simp only [opn_of hcx hq30, opn_of hcw hq30, decide_true, coreS, Value.cells, Value.oneCell', Nat.reduceAdd, Nat.reduceSub, Nat.reduceMul, Nat.reduceLeDiff, Int.reduceEq, Nat.reduceEqDiff, E4Fs8]
            refine CallsH.mono (longs32 bI bK mI cI mK cK _ _ _ (II.ext (xJ.trans xK)) IK (by omega) (by omega)) ?_
            rintro v hL ⟨rfl, rfl⟩
            simp only [decide_true, coreS, Value.cells, Value.oneCell', Nat.reduceAdd, Nat.reduceSub, Nat.reduceMul, Nat.reduceLeDiff, Int.reduceEq, Nat.reduceEqDiff, E4Fs8]
            refine CallsH.mono (works (YF.trans (xIJ.trans xK))) ?_
            rintro v hM ⟨rfl, xM⟩
            simp only [coreS, Value.cells, Value.oneCell', Nat.reduceAdd, Nat.reduceSub, Nat.reduceMul, Nat.reduceLeDiff, Int.reduceEq, Nat.reduceEqDiff, E4Fs8]
            exact xM
          · rw [if_neg hat] at II
            simp only [hat, opn_of hcx hq30, opn_of hc hq30, decide_true, decide_false, coreS, Value.cells, Value.oneCell', Nat.reduceAdd, Nat.reduceSub, Nat.reduceMul, Nat.reduceLeDiff, Int.reduceEq, Nat.reduceEqDiff, E4Fs8]
            refine CallsH.mono (longs32 bI bJ mI cI mJ cJ _ _ _ (II.ext xJ) IJ (by omega) (by omega)) ?_
            rintro v hL ⟨rfl, rfl⟩
            simp only [decide_true, coreS, Value.cells, Value.oneCell', Nat.reduceAdd, Nat.reduceSub, Nat.reduceMul, Nat.reduceLeDiff, Int.reduceEq, Nat.reduceEqDiff, E4Fs8]
            refine CallsH.mono (works (YF.trans xIJ)) ?_
            rintro v hM ⟨rfl, xM⟩
            simp only [coreS, Value.cells, Value.oneCell', Nat.reduceAdd, Nat.reduceSub, Nat.reduceMul, Nat.reduceLeDiff, Int.reduceEq, Nat.reduceEqDiff, E4Fs8]
            exact xM
      · simp only [splice, coreS, Value.cells, Value.oneCell', Nat.reduceAdd, Nat.reduceSub, Nat.reduceMul, Nat.reduceLeDiff, Int.reduceEq, Nat.reduceEqDiff, drawS, treeS, treeB, E4Fs8]
        refine ⟨RB.of_ext ((Ext.refl _).push _) (RB.refl h4.size h4).1, ?_⟩
        have X33 := (RB.refl h4.size h4).trans (RB.of_ext (m := h4.size) ((Ext.refl h4).push (.cells #[.int .i64 0, .int .i64 0, .slice none 0 0] 24)) (RB.refl h4.size h4).1)
        have T33 : (Array.push h4 (.cells #[.int .i64 0, .int .i64 0, .slice none 0 0] 24))[h4.size]? = some (.cells #[.int .i64 0, .int .i64 0, .slice none 0 0] 24) := by rw [Array.getElem?_push, if_pos (by simp)]
        have g33 : h4.size ≤ h4.size := by have := (RB.refl h4.size h4).1; (try simp only [push_size] at this); omega
        try simp only [splice, coreS, Value.cells, Value.oneCell', Nat.reduceAdd, Nat.reduceSub, Nat.reduceMul, Nat.reduceLeDiff, Int.reduceEq, Nat.reduceEqDiff, drawS, treeS, treeB, E4Fs8]
        refine execB_keep ?_
        simp only [splice, coreS, Value.cells, Value.oneCell', Nat.reduceAdd, Nat.reduceSub, Nat.reduceMul, Nat.reduceLeDiff, Int.reduceEq, Nat.reduceEqDiff, drawS, treeS, treeB, E4Fs8]
        refine ⟨by omega, RB.of_ext ((Ext.refl _).push _) X33.1, ?_⟩
        have X34 := X33.trans (RB.of_ext (m := h4.size) ((Ext.refl (Array.push h4 (.cells #[.int .i64 0, .int .i64 0, .slice none 0 0] 24))).push (.cells #[] 26)) X33.1)
        have q34 : (Array.push (Array.push h4 (.cells #[.int .i64 0, .int .i64 0, .slice none 0 0] 24)) (.cells #[] 26))[h4.size + 1]? = some (.cells #[] 26) := by rw [Array.getElem?_push, if_pos (by simp)]
        have e34 : h4.size ≤ h4.size + 1 := by have := X33.1; (try simp only [push_size] at this); omega
        have T34 := push_old (o := .cells #[] 26) T33
        try simp only [splice, coreS, Value.cells, Value.oneCell', Nat.reduceAdd, Nat.reduceSub, Nat.reduceMul, Nat.reduceLeDiff, Int.reduceEq, Nat.reduceEqDiff, drawS, treeS, treeB, E4Fs8]
        refine execB_keep ?_
        simp only [splice, coreS, Value.cells, Value.oneCell', Nat.reduceAdd, Nat.reduceSub, Nat.reduceMul, Nat.reduceLeDiff, Int.reduceEq, Nat.reduceEqDiff, drawS, treeS, treeB, E4Fs8]
        refine apf22 rfl rfl q34 (srcT (y4.trans X34.ext)) hlk (by omega) fun a35 c35 h35 P35 x35 => ⟨RB.of_ext x35 X34.1, ?_⟩
        have O35 := P35.mono e34
        have X35 := X34.trans (RB.of_ext x35 X34.1)
        have T35 := x35.get T34
        try simp only [splice, coreS, Value.cells, Value.oneCell', Nat.reduceAdd, Nat.reduceSub, Nat.reduceMul, Nat.reduceLeDiff, Int.reduceEq, Nat.reduceEqDiff, drawS, treeS, treeB, E4Fs8]
        refine execB_keep ?_
        simp only [splice, coreS, Value.cells, Value.oneCell', Nat.reduceAdd, Nat.reduceSub, Nat.reduceMul, Nat.reduceLeDiff, Int.reduceEq, Nat.reduceEqDiff, drawS, treeS, treeB, E4Fs8]
        refine app22e rfl rfl O35 X35.1 (srcD (y4.trans X35.ext)) (by rw [List.length_drop]; omega) (by omega) fun a36 c36 h36 O36 A36 => ⟨App.rb A36 O35 (Nat.le_refl _) X35.1, ?_⟩
        have X36 := X35.trans (App.rb A36 O35 (Nat.le_refl _) X35.1)
        have T36 := (A36.old _ (lt_of_get T35) (OwnV.apart O35 T35 (by decide))).trans T35
        try simp only [splice, coreS, Value.cells, Value.oneCell', Nat.reduceAdd, Nat.reduceSub, Nat.reduceMul, Nat.reduceLeDiff, Int.reduceEq, Nat.reduceEqDiff, drawS, treeS, treeB, E4Fs8]
        refine execB_keep ?_
        have T0 := T36
        try simp only [T0, coreS, Value.cells, Value.oneCell', Nat.reduceAdd, Nat.reduceSub, Nat.reduceMul, Nat.reduceLeDiff, Int.reduceEq, Nat.reduceEqDiff, drawS, treeS, treeB, E4Fs8]
        refine stK_abs T0 (by simp) fun h37 g37 u37 => ?_
        simp only [splice] at g37
        have uu := RB.of_upd (m := h4.size) u37 (by have := g33; omega)
        refine ⟨uu, ?_⟩
        have XF := X36.trans uu
        have TF := g37
        have OF := O36.keep (h' := h37) (fun p hp => u37.old _ (OwnV.apart O36 T0 (by decide) p hp))
        have RF := OF.row
        rw [← show wo es k = es.take k ++ es.drop (k + 1) from rfl] at RF
        have LF : k + (n - (k + 1)) = (wo es k).length := by rw [wo, List.length_append, List.length_take, List.length_drop]; omega
        try simp only [coreS, Value.cells, Value.oneCell', Nat.reduceAdd, Nat.reduceSub, Nat.reduceMul, Nat.reduceLeDiff, Int.reduceEq, Nat.reduceEqDiff, drawS, treeS, treeB, E4Fs8]
        have YF := y4.trans XF.ext
        try simp only [coreS, Value.cells, Value.oneCell', Nat.reduceAdd, Nat.reduceSub, Nat.reduceMul, Nat.reduceLeDiff, Int.reduceEq, Nat.reduceEqDiff, E4Fs8]
        refine CallsH.mono (day43 number _ hnum) ?_
        rintro v hG ⟨rfl, rfl⟩
        rw [← hq]
        simp only [XF.ext.get f4, coreS, Value.cells, Value.oneCell', Nat.reduceAdd, Nat.reduceSub, Nat.reduceMul, Nat.reduceLeDiff, Int.reduceEq, Nat.reduceEqDiff, E4Fs8]
        refine CallsH.mono (balances45 u cl a3 n3 c3 _ q _ (r4.ext XF.ext) l3 (by omega)) ?_
        rintro v hI ⟨⟨bI, mI, cI, rfl, II, hmI⟩, xI⟩
        rw [balsR_ok hcx hq30, Int.toNat_natCast, bals_back u hkn hpp hbd] at II
        simp only [xI.get (XF.ext.get b4), coreS, Value.cells, Value.oneCell', Nat.reduceAdd, Nat.reduceSub, Nat.reduceMul, Nat.reduceLeDiff, Int.reduceEq, Nat.reduceEqDiff, E4Fs8]
        refine CallsH.mono (balances45 u cl _ n c es q _ (hr.ext (YF.trans xI)) hn hl) ?_
        rintro v hJ ⟨⟨bJ, mJ, cJ, rfl, IJ, hmJ⟩, xJ⟩
        rw [balsR_ok hc hq30, Int.toNat_natCast] at IJ
        have xIJ := xI.trans xJ
        by_cases hat : day ≤ q
        · rw [if_pos hat] at II
          have hcw := chk_wo (k := k) hc
          have hlw := (wo_sub (es := es) (k := k)).length_le
          simp only [hat, xIJ.get TF, decide_true, coreS, Value.cells, Value.oneCell', Nat.reduceAdd, Nat.reduceSub, Nat.reduceMul, Nat.reduceLeDiff, Int.reduceEq, Nat.reduceEqDiff, E4Fs8]
          refine CallsH.mono (balances45 u cl _ _ _ (wo es k) q _ (RF.ext xIJ) LF (by omega)) ?_
          rintro v hK ⟨⟨bK, mK, cK, rfl, IK, hmK⟩, xK⟩
          rw [balsR_ok hcw hq30, Int.toNat_natCast] at IK
          simp only [opn_of hcx hq30, opn_of hcw hq30, decide_true, coreS, Value.cells, Value.oneCell', Nat.reduceAdd, Nat.reduceSub, Nat.reduceMul, Nat.reduceLeDiff, Int.reduceEq, Nat.reduceEqDiff, E4Fs8]
          refine CallsH.mono (longs32 bI bK mI cI mK cK _ _ _ (II.ext (xJ.trans xK)) IK (by omega) (by omega)) ?_
          rintro v hL ⟨rfl, rfl⟩
          simp only [decide_true, coreS, Value.cells, Value.oneCell', Nat.reduceAdd, Nat.reduceSub, Nat.reduceMul, Nat.reduceLeDiff, Int.reduceEq, Nat.reduceEqDiff, E4Fs8]
          refine CallsH.mono (works (YF.trans (xIJ.trans xK))) ?_
          rintro v hM ⟨rfl, xM⟩
          simp only [coreS, Value.cells, Value.oneCell', Nat.reduceAdd, Nat.reduceSub, Nat.reduceMul, Nat.reduceLeDiff, Int.reduceEq, Nat.reduceEqDiff, E4Fs8]
          exact xM
        · rw [if_neg hat] at II
          simp only [hat, opn_of hcx hq30, opn_of hc hq30, decide_true, decide_false, coreS, Value.cells, Value.oneCell', Nat.reduceAdd, Nat.reduceSub, Nat.reduceMul, Nat.reduceLeDiff, Int.reduceEq, Nat.reduceEqDiff, E4Fs8]
          refine CallsH.mono (longs32 bI bJ mI cI mJ cJ _ _ _ (II.ext xJ) IJ (by omega) (by omega)) ?_
          rintro v hL ⟨rfl, rfl⟩
          simp only [decide_true, coreS, Value.cells, Value.oneCell', Nat.reduceAdd, Nat.reduceSub, Nat.reduceMul, Nat.reduceLeDiff, Int.reduceEq, Nat.reduceEqDiff, E4Fs8]
          refine CallsH.mono (works (YF.trans xIJ)) ?_
          rintro v hM ⟨rfl, xM⟩
          simp only [coreS, Value.cells, Value.oneCell', Nat.reduceAdd, Nat.reduceSub, Nat.reduceMul, Nat.reduceLeDiff, Int.reduceEq, Nat.reduceEqDiff, E4Fs8]
          exact xM
    · have eL : bckL u cl es k day = [] := by rw [bckL, if_neg hb]
      have hn3 : n3 = 0 := by rw [l3, eL]; rfl
      subst hn3
      by_cases hd : day < es[k].d
      · have hp : bck u cl es k day = 16 := by unfold bck; rw [if_neg (by simpa using hc), if_neg (by simp; omega), if_pos (by rw [bkX_at hkn]; exact hd)]
        simp only [hp, hd, Nat.ne_of_lt (lt_of_get hb3), Nat.ne_of_lt (lt_of_get he3), hb3, he3, if_false, decide_true, decide_false, Bool.not_false, Bool.not_true, coreS, Value.cells, Value.oneCell', Nat.reduceAdd, Nat.reduceSub, Nat.reduceMul, Nat.reduceLeDiff, Int.reduceEq, Nat.reduceEqDiff, E4Fs8]
        refine eqBoolW Tryz.underlying4 rfl rfl ?_
        simp only [gd_none, show ((0 : Nat) : Int) = 0 from rfl, Nat.ne_of_lt (lt_of_get hb3), Nat.ne_of_lt (lt_of_get he3), hb3, he3, if_false, hd, hp, BEq.rfl, decide_true, decide_false, Bool.not_false, Bool.not_true, coreS, Value.cells, Value.oneCell', Nat.reduceAdd, Nat.reduceSub, Nat.reduceMul, Nat.reduceLeDiff, Int.reduceEq, Nat.reduceEqDiff, E4Fs8]
        refine CallsH.mono (works z3) ?_
        rintro v h4 ⟨rfl, x4⟩
        simp only [coreS, Value.cells, Value.oneCell', Nat.reduceAdd, Nat.reduceSub, Nat.reduceMul, Nat.reduceLeDiff, Int.reduceEq, Nat.reduceEqDiff, E4Fs8]
        exact x4
      · have hp1 : bck u cl es k day = pst u cl es (bkE es k day) := by unfold bck; rw [if_neg (by simpa using hc), if_neg (by simp; omega), if_neg (by rw [bkX_at hkn]; exact hd)]
        have hoe : okE u (bkE es k day) := by
          have := hok _ (List.getElem_mem hkn)
          obtain ⟨g1, g2, g3, g4⟩ := this
          simp only [okE, bkE, bkX_at hkn]
          exact ⟨by omega, g3, g2, g4⟩
        have hft2 : ¬ (bkE es k day).f = (bkE es k day).t := by
          have := hft _ (List.getElem_mem hkn)
          simp only [bkE, bkX_at hkn]
          exact fun hh => this hh.symm
        by_cases hdc : day ≤ cl
        · have hp : bck u cl es k day = 25 := by rw [hp1]; unfold pst; rw [if_neg (by simpa using hc), if_neg (by simpa using hoe), if_neg hft2, if_pos (show (bkE es k day).d ≤ cl from hdc)]
          simp only [hp, hd, hdc, Nat.ne_of_lt (lt_of_get hb3), Nat.ne_of_lt (lt_of_get he3), hb3, he3, if_false, decide_true, decide_false, Bool.not_false, Bool.not_true, coreS, Value.cells, Value.oneCell', Nat.reduceAdd, Nat.reduceSub, Nat.reduceMul, Nat.reduceLeDiff, Int.reduceEq, Nat.reduceEqDiff, E4Fs8]
          refine eqBoolW Tryz.underlying4 rfl rfl ?_
          simp only [gd_none, show ((0 : Nat) : Int) = 0 from rfl, Nat.ne_of_lt (lt_of_get hb3), Nat.ne_of_lt (lt_of_get he3), hb3, he3, if_false, hd, hdc, BEq.rfl, decide_true, decide_false, Bool.not_false, Bool.not_true, coreS, Value.cells, Value.oneCell', Nat.reduceAdd, Nat.reduceSub, Nat.reduceMul, Nat.reduceLeDiff, Int.reduceEq, Nat.reduceEqDiff, E4Fs8]
          refine CallsH.mono (works z3) ?_
          rintro v h4 ⟨rfl, x4⟩
          simp only [coreS, Value.cells, Value.oneCell', Nat.reduceAdd, Nat.reduceSub, Nat.reduceMul, Nat.reduceLeDiff, Int.reduceEq, Nat.reduceEqDiff, E4Fs8]
          exact x4
        · have hl2 : es.length = 20 := by
            refine Classical.byContradiction fun hh => hb ?_
            rw [hp1]
            exact pst_iff.2 ⟨hc, hoe, hft2, show cl < day by omega, hh⟩
          have hp : bck u cl es k day = 6 := by rw [hp1]; unfold pst; rw [if_neg (by simpa using hc), if_neg (by simpa using hoe), if_neg hft2, if_neg (show ¬ (bkE es k day).d ≤ cl from hdc), if_pos hl2]
          have hn20 : (n : Int) = 20 := by omega
          simp only [hp, hd, hdc, hn20, Nat.ne_of_lt (lt_of_get hb3), Nat.ne_of_lt (lt_of_get he3), hb3, he3, if_false, decide_true, decide_false, Bool.not_false, Bool.not_true, coreS, Value.cells, Value.oneCell', Nat.reduceAdd, Nat.reduceSub, Nat.reduceMul, Nat.reduceLeDiff, Int.reduceEq, Nat.reduceEqDiff, E4Fs8]
          refine eqBoolW Tryz.underlying4 rfl rfl ?_
          simp only [gd_none, show ((0 : Nat) : Int) = 0 from rfl, Nat.ne_of_lt (lt_of_get hb3), Nat.ne_of_lt (lt_of_get he3), hb3, he3, if_false, hd, hn20, BEq.rfl, decide_true, decide_false, Bool.not_false, Bool.not_true, coreS, Value.cells, Value.oneCell', Nat.reduceAdd, Nat.reduceSub, Nat.reduceMul, Nat.reduceLeDiff, Int.reduceEq, Nat.reduceEqDiff, E4Fs8]
          refine CallsH.mono (works z3) ?_
          rintro v h4 ⟨rfl, x4⟩
          simp only [coreS, Value.cells, Value.oneCell', Nat.reduceAdd, Nat.reduceSub, Nat.reduceMul, Nat.reduceLeDiff, Int.reduceEq, Nat.reduceEqDiff, E4Fs8]
          exact x4
  · simp only [hc, decide_false, Bool.not_false, coreS, Value.cells, Value.oneCell', Nat.reduceAdd, Nat.reduceSub, Nat.reduceMul, Nat.reduceLeDiff, Int.reduceEq, Nat.reduceEqDiff, E4Fs8]
    refine CallsH.mono (works y1) ?_
    rintro v h2 ⟨rfl, x2⟩
    simp only [coreS, Value.cells, Value.oneCell', Nat.reduceAdd, Nat.reduceSub, Nat.reduceMul, Nat.reduceLeDiff, Int.reduceEq, Nat.reduceEqDiff, E4Fs8]
    exact x2
end Go.Proofs.YtepaekbjoombpaaGreatDoor
