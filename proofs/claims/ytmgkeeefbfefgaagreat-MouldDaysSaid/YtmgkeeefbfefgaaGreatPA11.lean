/- Texts joined by pack.py: lemmas for YtmgkeeefbfefgaaGreatDays. No condition. -/
import Derived.Test.YtmgkeeefbfefgaaGreatPA10
set_option linter.unusedSimpArgs false
set_option linter.unusedVariables false
set_option linter.defProp false
section
namespace Go.Proofs.YtmgkeeefbfefgaaGreat
open Go Go.Proofs Go.Eng Go.Run Tab
set_option maxRecDepth 100000
set_option linter.unusedSimpArgs false
set_option linter.unusedVariables false
set_option linter.defProp false
set_option maxHeartbeats 1000000
set_option linter.defProp false
def M14Fs9 := (And.intro (And.intro (And.intro @agg22 (And.intro @agg24 @by3)) (And.intro @fo24_2 (And.intro @inf22 @inf24))) (And.intro (And.intro @inf3 (And.intro @sz22 @sz24)) (And.intro (And.intro @sz3 @zero3) (And.intro @Tryz.underlying22 @Tryz.underlying25))))
def M14Fs33 := (And.intro (And.intro (And.intro @agg3 (And.intro @agg79 @agg87)) (And.intro (And.intro @by3 @fo81_1) (And.intro @inf3 @inf79))) (And.intro (And.intro (And.intro @inf87 @sz3) (And.intro @sz79 @sz87)) (And.intro (And.intro @zero87 @Tryz.underlying25) (And.intro @Tryz.underlying79 @Tryz.underlying88))))
def onD (bg : List Nat) : List (Nat × Nat) := onL (fun k => bg.getD k 0) bg.length
theorem onD_snoc (bg : List Nat) (d : Nat) : onD (bg ++ [d]) = onD bg ++ [(bg.length, d)] := by
  unfold onD
  rw [List.length_append, List.length_singleton, onL_succ]
  congr 1
  · unfold onL
    refine List.map_congr_left fun k hk => ?_
    have hk := List.mem_range.1 hk
    simp only [List.getD_eq_getElem?_getD, List.getElem?_append_left hk]
  · simp [List.getD_eq_getElem?_getD]
theorem fits_fit {sh mo : Nat → Nat} {bg : List Nat} {d : Nat} : fits sh mo (onD bg) bg.length d = MB.fit sh mo bg d := by
  rw [Bool.eq_iff_iff, MB.fit_iff]
  unfold onD
  rw [fits_on]
theorem Hold.del {sh mo : Nat → Nat} {es : List (Sk × Value × Nat)} {L : List (Nat × Nat)} {i d : Nat} (H : Hold sh mo es (L ++ [(i, d)])) (hf : fits sh mo L i d = true) : Hold sh mo (delA (1, mo i, d) (delA (0, sh i, d) es)) L := by
  have hf0 : held sh mo L (0, sh i, d) = false := by unfold fits at hf; simp only [Bool.and_eq_true, Bool.not_eq_true'] at hf; exact hf.1
  have hf1 : held sh mo L (1, mo i, d) = false := by unfold fits at hf; simp only [Bool.and_eq_true, Bool.not_eq_true'] at hf; exact hf.2
  have gone : ∀ (k : Sk) (es : List (Sk × Value × Nat)), (es.map (·.1)).Nodup → getA k (delA k es) = none := by
    intro k es hn
    induction es with
    | nil => rfl
    | cons x es ih =>
      rw [List.map_cons, List.nodup_cons] at hn
      by_cases hx : k = x.1
      · simp only [delA, hx, if_true]
        cases hg : getA x.1 es with
        | none => rfl
        | some v =>
          obtain ⟨c, hc⟩ := mem_getA hg
          exact absurd (List.mem_map.2 ⟨_, hc, rfl⟩) hn.1
      · simp only [delA, hx, if_false, getA]
        exact ih hn.2
  refine ⟨del_nodup (del_nodup H.nd), fun k => ?_⟩
  by_cases h1 : k = (1, mo i, d)
  · subst h1
    rw [gone _ _ (del_nodup H.nd), hf1]; rfl
  rw [getA_del h1]
  by_cases h0 : k = (0, sh i, d)
  · subst h0
    rw [gone _ _ H.nd, hf0]; rfl
  rw [getA_del h0, H.get]
  unfold held
  rw [List.any_append]
  simp [h0, h1]
structure Chg2 (h h' : Eng.Heap) (b c : Nat) : Prop where
  size : h.size ≤ h'.size
  old : ∀ i, i < h.size → i ≠ b → i ≠ c → h'[i]? = h[i]?
theorem Chg2.refl (h : Eng.Heap) (b c : Nat) : Chg2 h h b c := ⟨Nat.le_refl _, fun _ _ _ _ => rfl⟩
theorem Chg2.of_chg {h h' : Eng.Heap} {b c : Nat} (x : Chg h h' b) : Chg2 h h' b c := ⟨x.size, fun i h1 h2 _ => x.old i h1 h2⟩
theorem Chg2.of_ext {h h' : Eng.Heap} {b c : Nat} (x : Ext h h') : Chg2 h h' b c := ⟨x.size, fun i h1 _ _ => x.old i h1⟩
theorem Chg2.trans {h h' h'' : Eng.Heap} {b c : Nat} (x : Chg2 h h' b c) (y : Chg2 h' h'' b c) : Chg2 h h'' b c := ⟨Nat.le_trans x.size y.size, fun i h1 h2 h3 => (y.old i (Nat.lt_of_lt_of_le h1 x.size) h2 h3).trans (x.old i h1 h2 h3)⟩
theorem Chg2.updr {h h' h'' : Eng.Heap} {b c : Nat} (x : Chg2 h h' b c) (u : Upd h' h'' c) : Chg2 h h'' b c := x.trans ⟨by rw [u.size]; exact Nat.le_refl _, fun i _ _ h3 => u.old i h3⟩
theorem Chg2.updl {h h' h'' : Eng.Heap} {b c : Nat} (x : Chg2 h h' b c) (u : Upd h' h'' b) : Chg2 h h'' b c := x.trans ⟨by rw [u.size]; exact Nat.le_refl _, fun i _ h2 _ => u.old i h2⟩
theorem Chg2.get {h h' : Eng.Heap} {b c i : Nat} {o : Obj} (x : Chg2 h h' b c) (hi : h[i]? = some o) (h1 : i ≠ b) (h2 : i ≠ c) : h'[i]? = some o := (x.old i (lt_of_get hi) h1 h2).trans hi
theorem Chg2.ext {h0 h h' : Eng.Heap} {b c : Nat} (y : Ext h0 h) (x : Chg2 h h' b c) (hb : h0.size ≤ b) (hc : h0.size ≤ c) : Ext h0 h' := ⟨Nat.le_trans y.size x.size, fun i hi => (x.old i (Nat.lt_of_lt_of_le hi y.size) (by omega) (by omega)).trans (y.old i hi)⟩
def gs (sh mo : Nat → Nat) (D k : Nat) (bg : List Nat) (d : Nat) : Option (List Nat) := if MB.fit sh mo bg d then MB.go sh mo D k (bg ++ [d]) else none
theorem go_none {sh mo : Nat → Nat} {D k : Nat} {bg : List Nat} (h : ∀ d, d < D → gs sh mo D k bg d = none) : MB.go sh mo D (k + 1) bg = none := by
  show (List.range D).findSome? (gs sh mo D k bg) = none
  rw [List.findSome?_eq_none_iff]
  exact fun x hx => h x (List.mem_range.1 hx)
theorem go_found {sh mo : Nat → Nat} {D k d : Nat} {bg l : List Nat} (hd : d < D) (h : ∀ x, x < d → gs sh mo D k bg x = none) (he : gs sh mo D k bg d = some l) : MB.go sh mo D (k + 1) bg = some l := by
  show (List.range D).findSome? (gs sh mo D k bg) = some l
  have e : List.range D = List.range d ++ d :: (List.range' (d + 1) (D - d - 1)) := by
    rw [List.range_eq_range', List.range_eq_range', show D = d + (1 + (D - d - 1)) by omega, ← List.range'_append_1, ← List.range'_append_1]
    simp
  rw [e, List.findSome?_append, List.findSome?_cons, he, (List.findSome?_eq_none_iff).2 fun x hx => h x (List.mem_range.1 hx)]
  rfl
theorem ints_put {zs : List Int} {i : Nat} {d : Int} (hi : i < zs.length) : splice (Eng.ints zs) i [.int .i64 d] = Eng.ints (zs.set i d) := by
  rw [splice_one _ _ _ (by rw [Eng.ints_length]; exact hi)]
  simp [Eng.ints, List.map_set]
theorem take_put {zs : List Int} {bg : List Nat} {d : Nat} (h : zs.take bg.length = zsN bg) (hi : bg.length < zs.length) : (zs.set bg.length (d : Int)).take (bg ++ [d]).length = zsN (bg ++ [d]) := by
  rw [List.length_append, List.length_singleton, List.take_add_one, List.take_set_of_le (Nat.le_refl _), h, List.getElem?_set_self hi]
  simp [zsN]
def FillP (ws : List Wn) (D k q mb n : Nat) (bg : List Nat) (h : Eng.Heap) (v : Value) (h' : Eng.Heap) : Prop := Chg2 h h' mb q ∧
  ((∃ l, MB.go (shN ws) (moN ws) D k bg = some l ∧ v = .bool true ∧ h'[q]? = some (.cells (Eng.ints (zsN l)).toArray 3)) ∨
   (MB.go (shN ws) (moN ws) D k bg = none ∧ v = .bool false ∧ ∃ es c zs, MapV kvS h' mb es c ∧ Hold (shN ws) (moN ws) es (onD bg) ∧ h'[q]? = some (.cells (Eng.ints zs).toArray 3) ∧ zs.length = n ∧ zs.take bg.length = zsN bg))
theorem zsN_length (l : List Nat) : (zsN l).length = l.length := by simp [zsN]
theorem fill83 (g mb S M q : Nat) (a : Option Addr) (n c D : Nat) (ws : List Wn) (h0 : Eng.Heap) (hr : Row h0 a (wsV ws)) (hn : n = ws.length) (V : Vb S M ws) (hD : D ≤ 14) (hq : h0.size ≤ q) (hmb : h0.size ≤ mb) (hgq : g ≠ q) (hmq : mb ≠ q) :
    ∀ (k : Nat) (bg : List Nat) (zs : List Int) (es : List (Sk × Value × Nat)) (c0 : Nat) (h : Eng.Heap), bg.length + k = n → Ext h0 h → DeskB h g mb S M a n c → MapV kvS h mb es c0 → Hold (shN ws) (moN ws) es (onD bg) → h[q]? = some (.cells (Eng.ints zs).toArray 3) → zs.length = n → zs.take bg.length = zsN bg →
    CallsH Tryz.prog 33 #[.pointer (some ⟨g, 0, none⟩), .slice (some ⟨q, 0, none⟩) n n, .int .i64 bg.length, .int .i64 D] h (FillP ws D k q mb n bg h)
  | 0, bg, zs, es, c0, h, hk, x0, hg, Mp, H, hz, hzl, hzt => by
    have hbn : bg.length = n := by omega
    (refine CallsH_of_exec Tryz.func33 rfl bod33 ?_; simp only [Tryz.ntmps33, Tryz.results33, coreS, stK_some, splice, Value.cells, Value.oneCell', Nat.reduceAdd, Nat.reduceSub, Nat.reduceMul, Nat.reduceLeDiff, Int.reduceEq, Nat.reduceEqDiff, M14Fs33])
    refine exec_scope ?_
    have e1 : ((bg.length : Nat) : Int) = ((n : Nat) : Int) := by omega
    simp only [e1, decide_true, coreS, Value.cells, Value.oneCell', Nat.reduceAdd, Nat.reduceSub, Nat.reduceMul, Nat.reduceLeDiff, Int.reduceEq, Nat.reduceEqDiff, scopeK_normal, scopeK_ret, scopeK_exit, callV_yield, binds_cons, binds_nil, M14Fs33]
    rw [hbn, List.take_of_length_le (by omega)] at hzt
    rw [hzt] at hz
    exact ⟨Chg2.refl _ _ _, .inl ⟨bg, rfl, rfl, hz⟩⟩
  | k + 1, bg, zs, es, c0, h, hk, x0, hg, Mp, H, hz, hzl, hzt => by
    have hbn : bg.length < ws.length := by omega
    have hV := V.n
    have hgm : g ≠ mb := fun e => by have h1 := Mp.obj; unfold DeskB at hg; rw [e, h1] at hg; cases hg
    (refine CallsH_of_exec Tryz.func33 rfl bod33 ?_; simp only [Tryz.ntmps33, Tryz.results33, coreS, stK_some, splice, Value.cells, Value.oneCell', Nat.reduceAdd, Nat.reduceSub, Nat.reduceMul, Nat.reduceLeDiff, Int.reduceEq, Nat.reduceEqDiff, M14Fs33])
    refine exec_scope ?_
    have e1 : ¬ ((bg.length : Nat) : Int) = ((n : Nat) : Int) := by omega
    simp only [e1, decide_false, coreS, Value.cells, Value.oneCell', Nat.reduceAdd, Nat.reduceSub, Nat.reduceMul, Nat.reduceLeDiff, Int.reduceEq, Nat.reduceEqDiff, scopeK_normal, scopeK_ret, scopeK_exit, callV_yield, binds_cons, binds_nil, M14Fs33]
    refine WP_loopI [8, 9, 11, 17, 18, 19, 20, 21, 22, 23, 24, 25, 26, 27, 28, 29, 30, 31, 32, 33, 34, 35, 36, 37, 38, 39, 40, 41, 42, 43, 44, 45, 46, 47, 48] (fun e h' => Chg2 h h' mb q ∧ ∃ d : Nat, d ≤ D ∧ e 17 = .int .i64 d ∧ (∀ x, x < d → gs (shN ws) (moN ws) D k bg x = none) ∧ ∃ es c zs, MapV kvS h' mb es c ∧ Hold (shN ws) (moN ws) es (onD bg) ∧ h'[q]? = some (.cells (Eng.ints zs).toArray 3) ∧ zs.length = n ∧ zs.take bg.length = zsN bg) (fun e _ => match e 17 with | .int _ q => D - q.toNat | _ => 0) ⟨Chg2.refl _ _ _, 0, by omega, rfl, fun x hx => by omega, es, c0, zs, Mp, H, hz, hzl, hzt⟩ ?_
    rintro e h1 ⟨ch, d, hd, he, hno, es1, c1, zs1, Mp1, H1, hz1, hzl1, hzt1⟩
    have x1 : Ext h0 h1 := Chg2.ext x0 ch hmb hq
    have hg1 : DeskB h1 g mb S M a n c := ch.get hg hgm hgq
    by_cases hdD : d < D
    · have hlt : (d : Int) < (D : Int) := by omega
      simp only [he, hlt, decide_true, coreS, Value.cells, Value.oneCell', Nat.reduceAdd, Nat.reduceSub, Nat.reduceMul, Nat.reduceLeDiff, Int.reduceEq, Nat.reduceEqDiff, scopeK_normal, scopeK_ret, scopeK_exit, callV_yield, binds_cons, binds_nil, M14Fs33]
      refine CallsH.mono (hang53 g mb S M a n c ws bg.length d es1 c1 (onD bg) h1 hg1 (hr.ext x1) hn V hbn Mp1 H1) ?_
      rintro v h2 ⟨rfl, ch2, es2, c2, Mp2, H2⟩
      rw [fits_fit] at H2 ⊢
      cases hf : MB.fit (shN ws) (moN ws) bg d with
      | false =>
        rw [hf] at H2
        have hz2 := ch2.get hz1 (fun e => hmq e.symm)
        simp only [he, Bool.not_false, coreS, Value.cells, Value.oneCell', Nat.reduceAdd, Nat.reduceSub, Nat.reduceMul, Nat.reduceLeDiff, Int.reduceEq, Nat.reduceEqDiff, scopeK_normal, scopeK_ret, scopeK_exit, callV_yield, binds_cons, binds_nil, M14Fs33]
        refine ⟨by rw [inK_i64]; omega, roundK_mk (by kernel_rfl) ⟨ch.trans (.of_chg ch2), d + 1, by omega, rfl, fun x hx => ?_, es2, c2, zs1, Mp2, by simpa using H2, hz2, hzl1, hzt1⟩ ?_⟩
        · by_cases e : x = d
          · subst e; unfold gs; rw [hf]; rfl
          · exact hno x (by omega)
        · show D - ((d : Int) + 1).toNat < D - (d : Int).toNat
          omega
      | true =>
        rw [hf, if_pos rfl, ← onD_snoc] at H2
        have hz2 := ch2.get hz1 (fun e => hmq e.symm)
        have hg2 : DeskB h2 g mb S M a n c := ch2.get hg1 hgm
        simp only [he, hz2, Bool.not_true, Int.toNat_natCast, coreS, Value.cells, Value.oneCell', Nat.reduceAdd, Nat.reduceSub, Nat.reduceMul, Nat.reduceLeDiff, Int.reduceEq, Nat.reduceEqDiff, scopeK_normal, scopeK_ret, scopeK_exit, callV_yield, binds_cons, binds_nil, M14Fs33]
        refine ⟨⟨by omega, by omega⟩, rfl, ?_⟩
        refine stK_abs hz2 (by simp [Eng.ints_length]; omega) fun h3 g3 u3 => ?_
        rw [ints_put (by omega)] at g3
        have ch3 : Chg2 h h3 mb q := (ch.trans (.of_chg ch2)).updr u3
        have x3 : Ext h0 h3 := Chg2.ext x0 ch3 hmb hq
        have hg3 : DeskB h3 g mb S M a n c := u3.get hg2 hgq
        have Mp3 : MapV kvS h3 mb es2 c2 := Mp2.keep (u3.old _ hmq)
        have el : ((bg.length : Nat) : Int) + 1 = ((bg ++ [d]).length : Nat) := by simp
        simp only [coreS, Value.cells, Value.oneCell', Nat.reduceAdd, Nat.reduceSub, Nat.reduceMul, Nat.reduceLeDiff, Int.reduceEq, Nat.reduceEqDiff, scopeK_normal, scopeK_ret, scopeK_exit, callV_yield, binds_cons, binds_nil, M14Fs33]
        refine ⟨by rw [inK_i64]; omega, ?_⟩
        rw [el]
        refine CallsH.mono (fill83 g mb S M q a n c D ws h0 hr hn V hD hq hmb hgq hmq k (bg ++ [d]) _ es2 c2 h3 (by simp; omega) x3 hg3 Mp3 H2 g3 (by simp [hzl1]) (take_put hzt1 (by omega))) ?_
        rintro v h4 ⟨ch4, ⟨l, hgo, rfl, hz4⟩ | ⟨hgo, rfl, es4, c4, zs4, Mp4, H4, hz4, hzl4, hzt4⟩⟩
        · simp only [coreS, Value.cells, Value.oneCell', Nat.reduceAdd, Nat.reduceSub, Nat.reduceMul, Nat.reduceLeDiff, Int.reduceEq, Nat.reduceEqDiff, scopeK_normal, scopeK_ret, scopeK_exit, callV_yield, binds_cons, binds_nil, M14Fs33]
          refine ⟨ch3.trans ch4, .inl ⟨l, ?_, rfl, hz4⟩⟩
          exact go_found hdD hno (by unfold gs; rw [hf, if_pos rfl]; exact hgo)
        · have y4 := ch3.trans ch4
          have x4 : Ext h0 h4 := Chg2.ext x0 y4 hmb hq
          have hg4 : DeskB h4 g mb S M a n c := y4.get hg hgm hgq
          have hs := (V.s hbn).1
          have hm := (V.m hbn).1
          simp only [he, coreS, Value.cells, Value.oneCell', Nat.reduceAdd, Nat.reduceSub, Nat.reduceMul, Nat.reduceLeDiff, Int.reduceEq, Nat.reduceEqDiff, scopeK_normal, scopeK_ret, scopeK_exit, callV_yield, binds_cons, binds_nil, M14Fs33]
          refine CallsH.mono (spots85 g mb S M a n c ws bg.length d h4 hg4 (hr.ext x4) hn hbn) ?_
          rintro v h5 ⟨rfl, x5⟩
          rw [hs, hm]
          have y5 := y4.trans (.of_ext x5)
          have Mp5 := Mp4.ext x5
          have hg5 : h5[g]? = some (.cells #[.int .i64 S, .int .i64 M, .slice a n c, .map (some mb)] 81) := x5.get hg4
          have hz5 := x5.get hz4
          simp only [coreS, Value.cells, Value.oneCell', Nat.reduceAdd, Nat.reduceSub, Nat.reduceMul, Nat.reduceLeDiff, Int.reduceEq, Nat.reduceEqDiff, scopeK_normal, scopeK_ret, scopeK_exit, callV_yield, binds_cons, binds_nil, M14Fs33]
          refine WP_loopI [11, 39, 40, 41, 42, 43, 44, 45, 46, 47] (fun e h' => Chg2 h h' mb q ∧ h'[g]? = some (.cells #[.int .i64 S, .int .i64 M, .slice a n c, .map (some mb)] 81) ∧ h'[q]? = some (.cells (Eng.ints zs4).toArray 3) ∧ ((e 39 = .int .i64 0 ∧ MapV kvS h' mb es4 c4) ∨ (e 39 = .int .i64 1 ∧ MapV kvS h' mb (delA (0, shN ws bg.length, d) es4) c4) ∨ (e 39 = .int .i64 2 ∧ MapV kvS h' mb (delA (1, moN ws bg.length, d) (delA (0, shN ws bg.length, d) es4)) c4))) (fun e _ => match e 39 with | .int _ q => 2 - q.toNat | _ => 0) ⟨y5, hg5, hz5, .inl ⟨rfl, Mp5⟩⟩ ?_
          rintro e3 h6 ⟨y6, hg6, hz6, ⟨he6, M6⟩ | ⟨he6, M6⟩ | ⟨he6, M6⟩⟩
          · simp only [he6, idsW_arr, show ((0 : Int) < 2) by omega, decide_true, coreS, Value.cells, Value.oneCell', Nat.reduceAdd, Nat.reduceSub, Nat.reduceMul, Nat.reduceLeDiff, Int.reduceEq, Nat.reduceEqDiff, scopeK_normal, scopeK_ret, scopeK_exit, callV_yield, binds_cons, binds_nil, M14Fs33]
            refine index_arrT (j := 0) Tryz.underlying88 agg87 inf87 sz87 rfl rfl (by omega) ?_
            simp only [List.drop, List.take, stK_some, splice, coreS, stK_some, splice, Value.cells, Value.oneCell', Nat.reduceAdd, Nat.reduceSub, Nat.reduceMul, Nat.reduceLeDiff, Int.reduceEq, Nat.reduceEqDiff, M14Fs33]
            have hgl := lt_of_get hg6
            have hgn : ¬ (g = h6.size) := by omega
            refine WP_draw (by kernel_rfl) sta_eq [(0, 0), (1, 0), (2, 0), (3, 0), (4, 0), (5, 1)] (by kernel_rfl) rfl (by kernel_rfl) ?_
            simp only [hg6, hgn, if_false, hvK_eq, coreS, Value.cells, Value.oneCell', Nat.reduceAdd, Nat.reduceSub, Nat.reduceMul, Nat.reduceLeDiff, Int.reduceEq, Nat.reduceEqDiff, drawS, M14Fs33]
            refine map_delT Tryz.underlying79 keysS (M6.ext ((Ext.refl h6).push _)) (a := (0, shN ws bg.length, d)) rfl rfl fun h7 M7 u7 => ?_
            simp only [hvK_eq, coreS, Value.cells, Value.oneCell', Nat.reduceAdd, Nat.reduceSub, Nat.reduceMul, Nat.reduceLeDiff, Int.reduceEq, Nat.reduceEqDiff, drawS, M14Fs33]
            refine ⟨by rw [inK_i64]; omega, roundK_mk (by kernel_rfl) ⟨(y6.trans (.of_ext ((Ext.refl h6).push _))).updl u7, u7.get (push_old hg6) hgm, u7.get (push_old hz6) (fun e => hmq e.symm), .inr (.inl ⟨rfl, M7⟩)⟩ ?_⟩
            show 2 - (0 + 1 : Int).toNat < 2 - (0 : Int).toNat
            omega
          · simp only [he6, idsW_arr, show ((1 : Int) < 2) by omega, decide_true, coreS, Value.cells, Value.oneCell', Nat.reduceAdd, Nat.reduceSub, Nat.reduceMul, Nat.reduceLeDiff, Int.reduceEq, Nat.reduceEqDiff, scopeK_normal, scopeK_ret, scopeK_exit, callV_yield, binds_cons, binds_nil, M14Fs33]
            refine index_arrT (j := 1) Tryz.underlying88 agg87 inf87 sz87 rfl rfl (by omega) ?_
            simp only [List.drop, List.take, stK_some, splice, coreS, stK_some, splice, Value.cells, Value.oneCell', Nat.reduceAdd, Nat.reduceSub, Nat.reduceMul, Nat.reduceLeDiff, Int.reduceEq, Nat.reduceEqDiff, M14Fs33]
            have hgl := lt_of_get hg6
            have hgn : ¬ (g = h6.size) := by omega
            refine WP_draw (by kernel_rfl) sta_eq [(0, 0), (1, 0), (2, 0), (3, 0), (4, 0), (5, 1)] (by kernel_rfl) rfl (by kernel_rfl) ?_
            simp only [hg6, hgn, if_false, hvK_eq, coreS, Value.cells, Value.oneCell', Nat.reduceAdd, Nat.reduceSub, Nat.reduceMul, Nat.reduceLeDiff, Int.reduceEq, Nat.reduceEqDiff, drawS, M14Fs33]
            refine map_delT Tryz.underlying79 keysS (M6.ext ((Ext.refl h6).push _)) (a := (1, moN ws bg.length, d)) rfl rfl fun h7 M7 u7 => ?_
            simp only [hvK_eq, coreS, Value.cells, Value.oneCell', Nat.reduceAdd, Nat.reduceSub, Nat.reduceMul, Nat.reduceLeDiff, Int.reduceEq, Nat.reduceEqDiff, drawS, M14Fs33]
            refine ⟨by rw [inK_i64]; omega, roundK_mk (by kernel_rfl) ⟨(y6.trans (.of_ext ((Ext.refl h6).push _))).updl u7, u7.get (push_old hg6) hgm, u7.get (push_old hz6) (fun e => hmq e.symm), .inr (.inr ⟨rfl, M7⟩)⟩ ?_⟩
            show 2 - (1 + 1 : Int).toNat < 2 - (1 : Int).toNat
            omega
          · simp only [he, he6, show ¬ ((2 : Int) < 2) by omega, decide_false, coreS, Value.cells, Value.oneCell', Nat.reduceAdd, Nat.reduceSub, Nat.reduceMul, Nat.reduceLeDiff, Int.reduceEq, Nat.reduceEqDiff, scopeK_normal, scopeK_ret, scopeK_exit, callV_yield, binds_cons, binds_nil, M14Fs33]
            rw [onD_snoc] at H4
            have H5 := H4.del (by rw [fits_fit]; exact hf)
            have hzt5 : zs4.take bg.length = zsN bg := by
              have := congrArg (List.take bg.length) hzt4
              rw [List.take_take, Nat.min_eq_left (by simp)] at this
              rw [this]
              simp [zsN]
            refine ⟨by rw [inK_i64]; omega, roundK_mk (by kernel_rfl) ⟨y6, d + 1, by omega, rfl, fun x hx => ?_, _, _, zs4, M6, H5, hz6, hzl4, hzt5⟩ ?_⟩
            · by_cases e : x = d
              · subst e; unfold gs; rw [hf, if_pos rfl]; exact hgo
              · exact hno x (by omega)
            · show D - ((d : Int) + 1).toNat < D - (d : Int).toNat
              omega
    · obtain rfl : d = D := by omega
      have hlt : ¬ ((d : Int) < (d : Int)) := by omega
      simp only [he, hlt, decide_false, coreS, Value.cells, Value.oneCell', Nat.reduceAdd, Nat.reduceSub, Nat.reduceMul, Nat.reduceLeDiff, Int.reduceEq, Nat.reduceEqDiff, scopeK_normal, scopeK_ret, scopeK_exit, callV_yield, binds_cons, binds_nil, M14Fs33]
      exact ⟨ch, .inr ⟨go_none hno, rfl, es1, c1, zs1, Mp1, H1, hz1, hzl1, hzt1⟩⟩
noncomputable def dysF (ws : List Wn) : List Nat := (MB.go (shN ws) (moN ws) (gld ws) ws.length []).getD []
theorem dysF_ok {S M : Nat} {ws : List Wn} (V : Vb S M ws) : MB.go (shN ws) (moN ws) (gld ws) ws.length [] = some (dysF ws) ∧ (dysF ws).length = ws.length ∧ MB.rightL (shN ws) (moN ws) (dysF ws) ∧ (∀ x, x ∈ dysF ws → x < gld ws) ∧ MB.dif (dysF ws) = gld ws := by
  obtain ⟨l, h1, h2⟩ := MB.days_first (gld_great V)
  have e : dysF ws = l := by unfold dysF; rw [h1]; rfl
  rw [e]
  exact ⟨h1, h2⟩
structure DaysP (S M : Int) (ws : List Wn) (h0 : Nat) (h' : Eng.Heap) (v : Value) : Prop where
  ok : chk S M ws = 0 → ∃ q, v = .tuple #[.slice (some ⟨q, 0, none⟩) ws.length ws.length, .int .i64 0] ∧ h0 ≤ q ∧ h'[q]? = some (.cells (Eng.ints (zsN (dysF ws))).toArray 3)
  no : chk S M ws ≠ 0 → v = .tuple #[.slice none 0 0, .int .i64 (chk S M ws)]
theorem days48 (S M : Int) (a : Option Addr) (n c : Nat) (ws : List Wn) (h : Eng.Heap) (hr : Row h a (wsV ws)) (hn : n = ws.length) (hl : n ≤ 1000000) :
    CallsH Tryz.prog 9 #[.agg #[.int .i64 S, .int .i64 M, .slice a n c]] h (fun v h' => DaysP S M ws h.size h' v ∧ Ext h h') := by
  (refine CallsH_of_exec Tryz.func9 rfl bod9 ?_; simp only [Tryz.ntmps9, Tryz.results9, coreS, stK_some, splice, Value.cells, Value.oneCell', Nat.reduceAdd, Nat.reduceSub, Nat.reduceMul, Nat.reduceLeDiff, Int.reduceEq, Nat.reduceEqDiff, M14Fs9])
  have x0 : Ext h (h.push (.cells #[.int .i64 S, .int .i64 M, .slice a n c] 24)) := (Ext.refl h).push _
  refine CallsH.mono (open49 S M a n c ws _ (hr.push _) hn hl) ?_
  rintro v h1 ⟨x1, ⟨s, m, rfl, rfl, V, g, b, rfl, hg, hmb, hgs, hbs⟩ | ⟨hc, rfl⟩⟩
  · have y1 := x0.trans x1
    have hb1 := x1.get (push_new (h := h))
    rw [push_size] at hgs hbs
    have hgl := lt_of_get hg
    have hbl := lt_of_get hmb
    have V3 := V.n
    simp only [hb1, Bool.not_true, decide_true, List.flatten_replicate_singleton, coreS, Value.cells, Value.oneCell', Nat.reduceAdd, Nat.reduceSub, Nat.reduceMul, Nat.reduceLeDiff, Int.reduceEq, Nat.reduceEqDiff, M14Fs9]
    repeat (refine And.intro (by first | omega | decide) ?_)
    have hg2 : DeskB (h1.push (.cells (List.replicate n (.int .i64 0)).toArray 3)) g b s m a n c := push_old hg
    refine CallsH.mono (most82 g b s m a n c ws _ hg2 (hr.ext (y1.push _)) hn V) ?_
    rintro v h2 ⟨rfl, x2⟩
    have hg3 : DeskB h2 g b s m a n c := x2.get hg2
    have hz := x2.get (push_new (h := h1) (o := .cells (List.replicate n (.int .i64 0)).toArray 3))
    have hmb2 := x2.get (push_old hmb (o := .cells (List.replicate n (.int .i64 0)).toArray 3))
    have y2 := (y1.push (.cells (List.replicate n (.int .i64 0)).toArray 3)).trans x2
    have hM0 : MapV kvS h2 b [] 0 := ⟨by simpa using hmb2, by simp, by simp⟩
    have hzi : List.replicate n (.int .i64 0) = Eng.ints (List.replicate n 0) := by simp [Eng.ints]
    rw [hzi] at hz
    have hG := gld_le V
    obtain ⟨d1, d2, d3, d4, d5⟩ := dysF_ok V
    have hs := y1.size
    simp only [coreS, Value.cells, Value.oneCell', Nat.reduceAdd, Nat.reduceSub, Nat.reduceMul, Nat.reduceLeDiff, Int.reduceEq, Nat.reduceEqDiff, M14Fs9]
    refine CallsH.mono (fill83 g b s m h1.size a n c (gld ws) ws h hr hn V (by omega) (by omega) (by omega) (by omega) (by omega) n [] _ [] 0 h2 (by simp) y2 hg3 hM0 Hold.nil hz (by simp) (by simp [zsN])) ?_
    rintro v h3 ⟨ch3, ⟨l, hgo, rfl, hz3⟩ | ⟨hgo, _⟩⟩
    · rw [hn, d1] at hgo
      cases hgo
      simp only [coreS, Value.cells, Value.oneCell', Nat.reduceAdd, Nat.reduceSub, Nat.reduceMul, Nat.reduceLeDiff, Int.reduceEq, Nat.reduceEqDiff, M14Fs9]
      subst hn
      exact ⟨⟨fun _ => ⟨h1.size, rfl, by omega, hz3⟩, fun hne => absurd V.chk hne⟩, Chg2.ext y2 ch3 (by omega) (by omega)⟩
    · rw [hn, d1] at hgo; cases hgo
  · simp only [hc, decide_false, Bool.not_false, if_false, coreS, Value.cells, Value.oneCell', Nat.reduceAdd, Nat.reduceSub, Nat.reduceMul, Nat.reduceLeDiff, Int.reduceEq, Nat.reduceEqDiff, M14Fs9]
    exact ⟨⟨fun h0 => absurd h0 hc, fun _ => rfl⟩, x0.trans x1⟩
end Go.Proofs.YtmgkeeefbfefgaaGreat
end
section
set_option linter.unusedVariables false
set_option linter.unusedSimpArgs false
namespace Go.Eng
open Go
attribute [local semireducible] opSem opQS CallsW setD WP
section drawB
variable {l : Option Nat} {P : Program} {ops : Array Oper}
structure Pre (R : Heap → Heap → Prop) : Prop where
  refl : ∀ h, R h h
  trans : ∀ a b c, R a b → R b c → R a c
theorem Pre.of {R : Heap → Heap → Prop} (hS : Pre R) {a b : Heap} (h : EqH a b) : R a b := by rw [show b = a from h]; exact hS.1 _
def anyB (P : Program) (ops : Array Oper) (R : Heap → Heap → Prop) (G : Nat → Bool) (Q : Act → World → Prop) : Nat → Array Bool → Act → World → Prop
  | 0, listed, a, w => ∀ w1, Rest w w1 → EqH w.heap w1.heap → Region.ready .any ops listed = [] ∧ Q a w1
  | n + 1, listed, a, w => ∀ w1, Rest w w1 → EqH w.heap w1.heap → (Region.ready .any ops listed = [] → Q a w1) ∧
      ∀ i ∈ Region.ready .any ops listed, opD P ops i (fun a' w' => (G i = true → R w1.heap w'.heap) ∧ Rest w1 w' ∧ anyB P ops R G Q n (listed.setIfInBounds i true) a' w') a w1
variable {R : Heap → Heap → Prop} {G : Nat → Bool} {Q : Act → World → Prop}
theorem eqT {a b c : Heap} (x : EqH a b) (y : EqH b c) : EqH a c := Eq.trans y x
theorem anyB_later  {n : Nat} {listed : Array Bool} {a : Act} {w w' : World} (hr : Rest w w') (hR : EqH w.heap w'.heap) (H : anyB P ops R G Q n listed a w) : anyB P ops R G Q n listed a w' := by
  cases n with
  | zero => exact fun w1 h1 h2 => H w1 (hr.trans h1) (eqT hR h2)
  | succ n => exact fun w1 h1 h2 => H w1 (hr.trans h1) (eqT hR h2)
theorem wpAny_of_anyB  {Q' : Exit → Act → World → Prop} (hQ : ∀ a w, Q a w → Q' .normal a w) : ∀ (n : Nat) (listed : Array Bool) (a : Act) (w : World), anyB P ops R G Q n listed a w → wpAnyIn (fen l) 0 P .any ops Q' n listed a w
  | 0, listed, a, w, H => ⟨(H w (Rest.refl w) rfl).1, hQ _ _ (H w (Rest.refl w) rfl).2⟩
  | n + 1, listed, a, w, H => by
    have H := H w (Rest.refl w) rfl
    exact ⟨fun h0 => hQ _ _ (H.1 h0), fun i hi => wpOpIn_mono (fun a' w' h' => wpAny_of_anyB hQ n _ a' w' h'.2.2) (wpOpIn_of_opD (H.2 i hi))⟩
def YdB (P : Program) (ops : Array Oper) (R : Heap → Heap → Prop) (o : Oper) (v : Value) (a : Act) (w : World) : Prop :=
  (Region.wanted o (yielded ops a.tmps) = true ∧ ∀ w', Rest w w' → R w.heap w'.heap → opSw P o a w' (fun v' w'' => v' = v ∧ EqH w'.heap w''.heap)) ∨
  (Region.wanted o (yielded ops a.tmps) = false ∧ v = undef)
theorem YdB_later (hS : Pre R) {o : Oper} {v : Value} {a : Act} {w w' : World} (hr : Rest w w') (hR : R w.heap w'.heap) (H : YdB P ops R o v a w) : YdB P ops R o v a w' := by
  rcases H with ⟨h1, h2⟩ | h
  · exact .inl ⟨h1, fun w1 hr1 hR1 => h2 w1 (hr.trans hr1) (hS.2 _ _ _ hR hR1)⟩
  · exact .inr h
theorem YdB_of {o : Oper} {v : Value} {a a' : Act} {w : World} (H : YdB P ops R o v a w) (he : execOp a'.eval o = execOp a.eval o) (hw : Region.wanted o (yielded ops a'.tmps) = Region.wanted o (yielded ops a.tmps)) : YdB P ops R o v a' w := by
  unfold YdB opSw at *
  rw [he, hw]
  exact H
theorem anyB_first (hS : Pre R) {i : Nat} {oi : Oper} {v : Value} (hi : ops[i]? = some oi) (hsel : ∀ (j : Nat) (o : Oper) cs b, ops[j]? = some o → o.op ≠ .select cs b) (Bk : List Nat) (hBk : ∀ j ∈ Bk, j ≠ i ∧ ∀ oj, ops[j]? = some oj → ∃ e ∈ oj.after, Region.binds .any e = true ∧ (e.on = i ∨ e.on ∈ Bk)) :
    ∀ (fuel : Nat) (listed : Array Bool) (a : Act) (w : World),
      (∀ j oj, ops[j]? = some oj → j ≠ i → listed.getD j true = false → j ∉ Bk → oi.apart ops oj = true ∧ G j = true) → (∀ j ∈ Bk, listed.getD j true = false) →
      i ∈ Region.ready .any ops listed → YdB P ops R oi v a w →
      anyB P ops R G Q fuel (listed.setIfInBounds i true) (a.put oi.dst v) w → anyB P ops R G Q (fuel + 1) listed a w := by
  intro fuel
  have self : ∀ (fuel : Nat) (listed : Array Bool) (a : Act) (w w1 : World), Rest w w1 → EqH w.heap w1.heap → YdB P ops R oi v a w →
      anyB P ops R G Q fuel (listed.setIfInBounds i true) (a.put oi.dst v) w → opD P ops i (fun a' w' => (G i = true → R w1.heap w'.heap) ∧ Rest w1 w' ∧ anyB P ops R G Q fuel (listed.setIfInBounds i true) a' w') a w1 := by
    intro fuel listed a w w1 hr1 hR1 hy H
    unfold opD
    simp only [hi]
    rcases hy with ⟨hw, hy⟩ | ⟨hw, hv⟩
    · simp only [hw, if_true]
      obtain ⟨hd, hs⟩ := hy w1 hr1 (hS.of hR1)
      refine ⟨hd, semPostW_mono ?_ hs⟩
      rintro v' w'' hr ⟨rfl, hR⟩
      exact ⟨fun _ => hS.of hR, hr, anyB_later (hr1.trans hr) (eqT hR1 hR) H⟩
    · simp only [hw]
      subst hv
      exact ⟨fun _ => hS.1 _, Rest.refl _, anyB_later hr1 hR1 H⟩
  induction fuel with
  | zero =>
    intro listed a w _ hbl hr hy H w1 hr1 hR1
    refine ⟨fun h => (by rw [h] at hr; cases hr), fun j hj => ?_⟩
    by_cases hji : j = i
    · subst hji; exact self 0 listed a w w1 hr1 hR1 hy H
    · have := ready_mono hj hji
      rw [(H w1 hr1 hR1).1] at this
      cases this
  | succ fuel ih =>
    intro listed a w hfree hbl hr hy H w1 hr1 hR1
    refine ⟨fun h => (by rw [h] at hr; cases hr), fun j hj => ?_⟩
    by_cases hji : j = i
    · subst hji; exact self (fuel + 1) listed a w w1 hr1 hR1 hy H
    · have h1 := (H w1 hr1 hR1).2 j (ready_mono hj hji)
      obtain ⟨hjun, oj, hoj, hall⟩ := mem_ready.1 hj
      have hnot : j ∉ Bk := fun hjB => by
        obtain ⟨e, he, hb, hon⟩ := (hBk j hjB).2 oj hoj
        have h1 := hall e he hb
        have h0 : listed.getD e.on true = false := by
          rcases hon with hon | hon
          · rw [hon]; exact (mem_ready.1 hr).1
          · exact hbl _ hon
        rcases Nat.lt_or_ge e.on listed.size with h' | h'
        · simp [h'] at h0 h1; rw [h0] at h1; cases h1
        · simp [Array.getElem?_eq_none h'] at h1
      obtain ⟨hap, hGj⟩ := hfree j oj hoj hji hjun hnot
      obtain ⟨hp1, hp2, hp3⟩ := Oper.apart_spec hap
      have hsj : ∀ cs b, oj.op ≠ .select cs b := fun cs b => hsel j oj cs b hoj
      have hsi : ∀ cs b, oi.op ≠ .select cs b := fun cs b => hsel i oi cs b hi
      have hfree' : ∀ k ok, ops[k]? = some ok → k ≠ i → (listed.setIfInBounds j true).getD k true = false →
          k ∉ Bk → oi.apart ops ok = true ∧ G k = true := fun k ok hk hki hun hno => by
        refine hfree k ok hk hki ?_ hno
        by_cases hjk : j = k
        · subst hjk; exact hjun
        · rw [getD_set_ne true hjk] at hun; exact hun
      have hbl' : ∀ k ∈ Bk, (listed.setIfInBounds j true).getD k true = false := fun k hk => by
        have hjk : j ≠ k := fun h => hnot (h ▸ hk)
        rw [getD_set_ne true hjk]
        exact hbl k hk
      have step : ∀ (u : Value) (w' : World), Rest w1 w' → ((G j = true → R w1.heap w'.heap) ∧ Rest w1 w' ∧ anyB P ops R G Q fuel ((listed.setIfInBounds i true).setIfInBounds j true) ((a.put oi.dst v).put oj.dst u) w') →
          (G j = true → R w1.heap w'.heap) ∧ Rest w1 w' ∧ anyB P ops R G Q (fuel + 1) (listed.setIfInBounds j true) (a.put oj.dst u) w' := by
        rintro u w' hr' ⟨hg, hr2, hany⟩
        refine ⟨hg, hr2, ih (listed.setIfInBounds j true) (a.put oj.dst u) w' hfree' hbl' (ready_mono hr (Ne.symm hji)) ?_ ?_⟩
        · exact YdB_of (YdB_later hS (hr1.trans hr2) (hS.2 _ _ _ (hS.of hR1) (hg hGj)) hy) (execOp_put oi hsi a oj.dst u hp3) (wanted_put oi a oj.dst u hp3)
        · rw [Array.setIfInBounds_comm _ _ hji, ← Act.put_comm a v u hp2]
          exact hany
      unfold opD at h1 ⊢
      simp only [hoj] at h1 ⊢
      rw [wanted_put oj a oi.dst v hp1] at h1
      split
      · rename_i hw
        simp only [hw, if_true] at h1
        refine ⟨h1.1, ?_⟩
        have h2 := h1.2
        rw [execOp_put oj hsj a oi.dst v hp1] at h2
        exact semPostW_mono (fun u w' hr' h3 => step u w' hr' h3) h2
      · rename_i hw
        simp only [hw] at h1
        exact step undef w1 (Rest.refl _) h1
theorem anyB_firstP (hS : Pre R) {i : Nat} {oi : Oper} {v : Value} (hi : ops[i]? = some oi) (hsel : ∀ (j : Nat) (o : Oper) cs b, ops[j]? = some o → o.op ≠ .select cs b) (Bk : List Nat) (hBk : ∀ j ∈ Bk, j ≠ i ∧ ∀ oj, ops[j]? = some oj → ∃ e ∈ oj.after, Region.binds .any e = true ∧ (e.on = i ∨ e.on ∈ Bk)) :
    ∀ (fuel : Nat) (listed : Array Bool) (a : Act) (w : World),
      (∀ j oj, ops[j]? = some oj → j ≠ i → listed.getD j true = false → j ∉ Bk → oi.apart ops oj = true) → (∀ j ∈ Bk, listed.getD j true = false) →
      i ∈ Region.ready .any ops listed → YdP P ops oi v a w →
      anyB P ops R G Q fuel (listed.setIfInBounds i true) (a.put oi.dst v) w → anyB P ops R G Q (fuel + 1) listed a w := by
  intro fuel
  have self : ∀ (fuel : Nat) (listed : Array Bool) (a : Act) (w w1 : World), Rest w w1 → EqH w.heap w1.heap → YdP P ops oi v a w →
      anyB P ops R G Q fuel (listed.setIfInBounds i true) (a.put oi.dst v) w → opD P ops i (fun a' w' => (G i = true → R w1.heap w'.heap) ∧ Rest w1 w' ∧ anyB P ops R G Q fuel (listed.setIfInBounds i true) a' w') a w1 := by
    intro fuel listed a w w1 hr1 hR1 hy H
    unfold opD
    simp only [hi]
    rcases hy with ⟨hw, hy⟩ | ⟨hw, hv⟩
    · simp only [hw, if_true]
      obtain ⟨hd, hs⟩ := hy w1 hr1
      refine ⟨hd, semPostW_mono ?_ hs⟩
      rintro v' w'' hr ⟨rfl, hE⟩
      have hR : EqH w1.heap w''.heap := hE
      exact ⟨fun _ => hS.of hR, hr, anyB_later (hr1.trans hr) (eqT hR1 hR) H⟩
    · simp only [hw]
      subst hv
      exact ⟨fun _ => hS.1 _, Rest.refl _, anyB_later hr1 hR1 H⟩
  induction fuel with
  | zero =>
    intro listed a w _ hbl hr hy H w1 hr1 hR1
    refine ⟨fun h => (by rw [h] at hr; cases hr), fun j hj => ?_⟩
    by_cases hji : j = i
    · subst hji; exact self 0 listed a w w1 hr1 hR1 hy H
    · have := ready_mono hj hji
      rw [(H w1 hr1 hR1).1] at this
      cases this
  | succ fuel ih =>
    intro listed a w hfree hbl hr hy H w1 hr1 hR1
    refine ⟨fun h => (by rw [h] at hr; cases hr), fun j hj => ?_⟩
    by_cases hji : j = i
    · subst hji; exact self (fuel + 1) listed a w w1 hr1 hR1 hy H
    · have h1 := (H w1 hr1 hR1).2 j (ready_mono hj hji)
      obtain ⟨hjun, oj, hoj, hall⟩ := mem_ready.1 hj
      have hnot : j ∉ Bk := fun hjB => by
        obtain ⟨e, he, hb, hon⟩ := (hBk j hjB).2 oj hoj
        have h1 := hall e he hb
        have h0 : listed.getD e.on true = false := by
          rcases hon with hon | hon
          · rw [hon]; exact (mem_ready.1 hr).1
          · exact hbl _ hon
        rcases Nat.lt_or_ge e.on listed.size with h' | h'
        · simp [h'] at h0 h1; rw [h0] at h1; cases h1
        · simp [Array.getElem?_eq_none h'] at h1
      have hap := hfree j oj hoj hji hjun hnot
      obtain ⟨hp1, hp2, hp3⟩ := Oper.apart_spec hap
      have hsj : ∀ cs b, oj.op ≠ .select cs b := fun cs b => hsel j oj cs b hoj
      have hsi : ∀ cs b, oi.op ≠ .select cs b := fun cs b => hsel i oi cs b hi
      have hfree' : ∀ k ok, ops[k]? = some ok → k ≠ i → (listed.setIfInBounds j true).getD k true = false →
          k ∉ Bk → oi.apart ops ok = true := fun k ok hk hki hun hno => by
        refine hfree k ok hk hki ?_ hno
        by_cases hjk : j = k
        · subst hjk; exact hjun
        · rw [getD_set_ne true hjk] at hun; exact hun
      have hbl' : ∀ k ∈ Bk, (listed.setIfInBounds j true).getD k true = false := fun k hk => by
        have hjk : j ≠ k := fun h => hnot (h ▸ hk)
        rw [getD_set_ne true hjk]
        exact hbl k hk
      have step : ∀ (u : Value) (w' : World), Rest w1 w' → ((G j = true → R w1.heap w'.heap) ∧ Rest w1 w' ∧ anyB P ops R G Q fuel ((listed.setIfInBounds i true).setIfInBounds j true) ((a.put oi.dst v).put oj.dst u) w') →
          (G j = true → R w1.heap w'.heap) ∧ Rest w1 w' ∧ anyB P ops R G Q (fuel + 1) (listed.setIfInBounds j true) (a.put oj.dst u) w' := by
        rintro u w' hr' ⟨hg, hr2, hany⟩
        refine ⟨hg, hr2, ih (listed.setIfInBounds j true) (a.put oj.dst u) w' hfree' hbl' (ready_mono hr (Ne.symm hji)) ?_ ?_⟩
        · exact YdP_of (YdP_later (hr1.trans hr2) hy) (execOp_put oi hsi a oj.dst u hp3) (wanted_put oi a oj.dst u hp3)
        · rw [Array.setIfInBounds_comm _ _ hji, ← Act.put_comm a v u hp2]
          exact hany
      unfold opD at h1 ⊢
      simp only [hoj] at h1 ⊢
      rw [wanted_put oj a oi.dst v hp1] at h1
      split
      · rename_i hw
        simp only [hw, if_true] at h1
        refine ⟨h1.1, ?_⟩
        have h2 := h1.2
        rw [execOp_put oj hsj a oi.dst v hp1] at h2
        exact semPostW_mono (fun u w' hr' h3 => step u w' hr' h3) h2
      · rename_i hw
        simp only [hw] at h1
        exact step undef w1 (Rest.refl _) h1
end drawB
def RB (m : Nat) (h h' : Heap) : Prop := h.size ≤ h'.size ∧ ∀ b, b < m → h'[b]? = h[b]?
theorem pre_RB (m : Nat) : Pre (RB m) := ⟨fun h => ⟨Nat.le_refl _, fun _ _ => rfl⟩, fun a b c x y => ⟨Nat.le_trans x.1 y.1, fun i hi => (y.2 i hi).trans (x.2 i hi)⟩⟩
theorem RB.of_ext {m : Nat} {h h' : Heap} (x : Ext h h') (hm : m ≤ h.size) : RB m h h' := ⟨x.size, fun b hb => x.old b (by omega)⟩
theorem RB.refl (m : Nat) (h : Heap) : RB m h h := (pre_RB m).1 h
theorem RB.trans {m : Nat} {a b c : Heap} (x : RB m a b) (y : RB m b c) : RB m a c := (pre_RB m).2 _ _ _ x y
theorem RB.get {m b : Nat} {h h' : Heap} {o : Obj} (x : RB m h h') (hb : b < m) (hg : h[b]? = some o) : h'[b]? = some o := (x.2 b hb).trans hg
theorem RB.ext {h h' : Heap} (x : RB h.size h h') : Ext h h' := ⟨x.1, fun b hb => x.2 b hb⟩
def oldP (m : Nat) (v : Value) : Prop := match v with | .pointer (some a) => a.block < m | _ => False
def ldB (P : Program) (m : Nat) (o : Op) (e : Env) (h : Heap) (K : Value → Heap → Prop) : Prop := match o with | .load t x => oldP m (ev e x) ∧ loadW P t (ev e x) h K | _ => False
inductive PB where
  | fin
  | load (i : Nat) (r : PB)
  | pure (i : Nat) (r : PB)
  | keep (i : Nat) (r : PB)
  | fork (x y : Nat) (a b : PB)
  | fork3 (x y z : Nat) (a b c : PB)
def PB.size : PB → Nat
  | .fin => 0
  | .load _ r | .pure _ r | .keep _ r => r.size + 1
  | .fork _ _ a _ => a.size + 1
  | .fork3 _ _ _ a _ _ => a.size + 1
section treeB
variable {P : Program} {l : Option Nat} {m : Nat}
def execB (P : Program) (m : Nat) (all : List Oper) : PB → Cont → Env → List Deferred → Heap → Prop
  | .fin, k, e, d, h => k .normal e d h
  | .load i rest, k, e, d, h => match all[i]? with
    | some o => guardW o.guard all e (fun e => ldB P m o.op e h (fun v h' => execB P m all rest k (putE e o.dst v) d h')) (fun e => execB P m all rest k (putE e o.dst undef) d h)
    | none => False
  | .pure i rest, k, e, d, h => match all[i]? with
    | some o => guardW o.guard all e (fun e => opPW P o.op e h (fun v h' => execB P m all rest k (putE e o.dst v) d h')) (fun e => execB P m all rest k (putE e o.dst undef) d h)
    | none => False
  | .keep i rest, k, e, d, h => stO P all all[i]? e h (fun e h'' => RB m h h'' ∧ execB P m all rest k e d h'')
  | .fork x y a b, k, e, d, h => stO P all all[x]? e h (fun e h'' => RB m h h'' ∧ execB P m all a k e d h'') ∧ stO P all all[y]? e h (fun e h'' => RB m h h'' ∧ execB P m all b k e d h'')
  | .fork3 x y z a b c, k, e, d, h => stO P all all[x]? e h (fun e h'' => RB m h h'' ∧ execB P m all a k e d h'') ∧ stO P all all[y]? e h (fun e h'' => RB m h h'' ∧ execB P m all b k e d h'') ∧ stO P all all[z]? e h (fun e h'' => RB m h h'' ∧ execB P m all c k e d h'')
def okB (all : List Oper) : PB → Array Bool → Bool
  | .fin, listed => (Region.ready .any all.toArray listed).isEmpty
  | .load i rest, listed => (Region.ready .any all.toArray listed).contains i && blkOk all listed i (blk all listed i all.length 0 []) &&
      ((List.range all.length).all fun j => j == i || listed.getD j true || (blk all listed i all.length 0 []).contains j || (match all[i]?, all[j]? with | some oi, some oj => oi.apart all.toArray oj | _, _ => true)) &&
      okB all rest (listed.setIfInBounds i true)
  | .pure i rest, listed => (Region.ready .any all.toArray listed).contains i && blkOk all listed i (blk all listed i all.length 0 []) &&
      ((List.range all.length).all fun j => j == i || listed.getD j true || (blk all listed i all.length 0 []).contains j || (match all[i]?, all[j]? with | some oi, some oj => oi.apart all.toArray oj | _, _ => true)) &&
      okB all rest (listed.setIfInBounds i true)
  | .keep i rest, listed => decide (Region.ready .any all.toArray listed = [i]) && okB all rest (listed.setIfInBounds i true)
  | .fork x y a b, listed => decide (Region.ready .any all.toArray listed = [x, y]) && (decide (a.size = b.size) && (okB all a (listed.setIfInBounds x true) && okB all b (listed.setIfInBounds y true)))
  | .fork3 x y z a b c, listed => decide (Region.ready .any all.toArray listed = [x, y, z]) && (decide (a.size = b.size) && (decide (a.size = c.size) && (okB all a (listed.setIfInBounds x true) && (okB all b (listed.setIfInBounds y true) && okB all c (listed.setIfInBounds z true)))))
theorem load_old {t : TypeId} {v : Value} {h h' : Heap} {K : Value → Heap → Prop} (ho : oldP m v) (hR : RB m h h') (H : loadW P t v h K) : ∃ x, K x h ∧ loadW P t v h' (fun y _ => y = x) := by
  unfold loadW at H ⊢
  split at H
  case h_2 => exact H.elim
  rename_i p
  have hc : cellH h' p = cellH h p := by
    cases p with
    | none => rfl
    | some a => unfold cellH; simp only [hR.2 a.block ho]
  have hcs : ∀ n, cellsH h' p n = cellsH h p n := by
    intro n
    cases p with
    | none => rfl
    | some a => unfold cellsH; simp only [hR.2 a.block ho]
  cases hag : aggT P t with
  | none => simp [hag] at H
  | some b =>
    simp only [hag] at H ⊢
    cases b with
    | true =>
      obtain ⟨hi, H⟩ := H
      rw [onC_iff] at H
      obtain ⟨cs, h1, h2⟩ := H
      exact ⟨_, h2, hi, onC_iff.2 ⟨cs, (hcs _).trans h1, rfl⟩⟩
    | false =>
      simp only at H ⊢
      rw [onV_iff] at H
      obtain ⟨x, h1, h2⟩ := H
      exact ⟨_, h2, onV_iff.2 ⟨x, hc.trans h1, rfl⟩⟩
theorem ldB_sound {o : Op} {e : Env} {h : Heap} {K : Value → Heap → Prop} (H : ldB P m o e h K) : noDefer o = true ∧ ∃ v, K v h ∧ ∀ (ty : TypeId) (w : World), RB m h w.heap → (execOp (ev e) { dst := none, op := o, type := ty, pos := "", after := #[], guard := none }).run P w = .ok (.value v) w := by
  unfold ldB at H
  split at H
  · rename_i t x
    obtain ⟨ho, H⟩ := H
    obtain ⟨x0, hk, _⟩ := load_old ho (RB.refl m h) H
    refine ⟨rfl, ?_⟩
    have key : ∀ h', RB m h h' → ∃ y, K y h ∧ loadW P t (ev e x) h' (fun z _ => z = y) := fun h' hR => load_old ho hR H
    obtain ⟨y, hy, hl⟩ := key h (RB.refl m h)
    refine ⟨y, hy, fun ty w hR => ?_⟩
    have : loadW P t (ev e x) h (fun z _ => z = y) := hl
    obtain ⟨z, rfl, hz⟩ := load_old ho hR this
    obtain ⟨u, rfl, hr⟩ := load_sound hz
    have := hr w rfl
    simp only [execOp, Sem.run_bind, this, Result.andThen_ok, Sem.run_pure]
  · exact H.elim
theorem execB_sound {all : List Oper} {k : Cont} {w0 : World} (hsel : Region.noSelect all.toArray = true) : ∀ (t : PB) (listed : Array Bool) (e : Env) (d : List Deferred) (w : World), Rest w0 w →
    okB all t listed = true → execB P m all t k e d w.heap →
    anyB P all.toArray (RB m) (fun _ => true) (fun a w' => k .normal a.tmps.toList a.defers w'.heap ∧ Rest w0 w') t.size listed ⟨e.toArray, d⟩ w
  | .fin, listed, e, d, w, hr, hok, H => fun w1 hr1 hR1 => by
    refine ⟨by simpa [okB] using hok, ?_, hr.trans hr1⟩
    rw [show w1.heap = w.heap from hR1]
    unfold execB at H
    simpa using H
  | .load i rest, listed, e, d, w, hr, hok, H => by
    simp only [okB, Bool.and_eq_true] at hok
    obtain ⟨⟨⟨hready, hbk⟩, hG⟩, hok⟩ := hok
    unfold execB at H
    cases hi : all[i]? with
    | none => simp [hi] at H
    | some o =>
      simp only [hi] at H
      have hi' : all.toArray[i]? = some o := by simpa using hi
      obtain ⟨Bk, hBke⟩ : ∃ Bk, Bk = blk all listed i all.length 0 [] := ⟨_, rfl⟩
      rw [← hBke] at hbk hG
      have hb1 : ∀ j ∈ Bk, listed.getD j true = false := fun j hj => by
        have := List.all_eq_true.1 hbk j hj
        simp only [Bool.and_eq_true, Bool.not_eq_true'] at this
        exact this.1.1
      have hb2 : ∀ j ∈ Bk, j ≠ i ∧ ∀ oj, all.toArray[j]? = some oj → ∃ e ∈ oj.after, Region.binds .any e = true ∧ (e.on = i ∨ e.on ∈ Bk) := fun j hj => by
        have := List.all_eq_true.1 hbk j hj
        simp only [Bool.and_eq_true, bne_iff_ne, ne_eq] at this
        refine ⟨this.1.2, fun oj hoj => ?_⟩
        have hj2 : all[j]? = some oj := by simpa using hoj
        have h2 := this.2
        rw [hj2] at h2
        obtain ⟨e, he, hb⟩ := Array.any_eq_true'.1 h2
        simp only [Bool.and_eq_true, Bool.or_eq_true, beq_iff_eq, List.contains_eq_mem, decide_eq_true_eq] at hb
        exact ⟨e, he, hb.1, hb.2⟩
      have hfr : ∀ j oj, all.toArray[j]? = some oj → j ≠ i → listed.getD j true = false → j ∉ Bk → o.apart all.toArray oj = true := by
        intro j oj hj hne hun hno
        have hlt : j < all.length := by have := (Array.getElem?_eq_some_iff.1 hj).1; simpa using this
        have := List.all_eq_true.1 hG j (List.mem_range.2 hlt)
        have hj2 : all[j]? = some oj := by simpa using hj
        simp only [hi, hj2, Bool.or_eq_true, Bool.and_eq_true, beq_iff_eq, hne, false_or, hun, Bool.false_eq_true, List.contains_eq_mem, decide_eq_true_eq, hno] at this
        exact this
      have hrdy : i ∈ Region.ready .any all.toArray listed := by simpa using hready
      rcases guard_sound H o rfl with ⟨hw, hA⟩ | ⟨hw, hB⟩
      · obtain ⟨hd, v, hk, hv⟩ := ldB_sound hA
        refine anyB_first (pre_RB m) hi' (Region.noSelect_spec hsel) Bk hb2 rest.size listed _ w (fun j oj a b c d => ⟨hfr j oj a b c d, rfl⟩) hb1 hrdy (v := v) ?_ ?_
        · refine .inl ⟨hw, fun w' hr' hR => ⟨hd, ?_⟩⟩
          rw [eval_ev, execOp_only, hv _ w' hR]
          exact ⟨⟨rfl, rfl⟩, Rest.refl _⟩
        · rw [put_putE]
          exact execB_sound hsel rest _ _ d w hr hok hk
      · refine anyB_first (pre_RB m) hi' (Region.noSelect_spec hsel) Bk hb2 rest.size listed _ w (fun j oj a b c d => ⟨hfr j oj a b c d, rfl⟩) hb1 hrdy (v := undef) (.inr ⟨hw, rfl⟩) ?_
        rw [put_putE]
        exact execB_sound hsel rest _ _ d w hr hok hB
  | .pure i rest, listed, e, d, w, hr, hok, H => by
    simp only [okB, Bool.and_eq_true] at hok
    obtain ⟨⟨⟨hready, hbk⟩, hG⟩, hok⟩ := hok
    unfold execB at H
    cases hi : all[i]? with
    | none => simp [hi] at H
    | some o =>
      simp only [hi] at H
      have hi' : all.toArray[i]? = some o := by simpa using hi
      obtain ⟨Bk, hBke⟩ : ∃ Bk, Bk = blk all listed i all.length 0 [] := ⟨_, rfl⟩
      rw [← hBke] at hbk hG
      have hb1 : ∀ j ∈ Bk, listed.getD j true = false := fun j hj => by
        have := List.all_eq_true.1 hbk j hj
        simp only [Bool.and_eq_true, Bool.not_eq_true'] at this
        exact this.1.1
      have hb2 : ∀ j ∈ Bk, j ≠ i ∧ ∀ oj, all.toArray[j]? = some oj → ∃ e ∈ oj.after, Region.binds .any e = true ∧ (e.on = i ∨ e.on ∈ Bk) := fun j hj => by
        have := List.all_eq_true.1 hbk j hj
        simp only [Bool.and_eq_true, bne_iff_ne, ne_eq] at this
        refine ⟨this.1.2, fun oj hoj => ?_⟩
        have hj2 : all[j]? = some oj := by simpa using hoj
        have h2 := this.2
        rw [hj2] at h2
        obtain ⟨e, he, hb⟩ := Array.any_eq_true'.1 h2
        simp only [Bool.and_eq_true, Bool.or_eq_true, beq_iff_eq, List.contains_eq_mem, decide_eq_true_eq] at hb
        exact ⟨e, he, hb.1, hb.2⟩
      have hfr : ∀ j oj, all.toArray[j]? = some oj → j ≠ i → listed.getD j true = false → j ∉ Bk → o.apart all.toArray oj = true := by
        intro j oj hj hne hun hno
        have hlt : j < all.length := by have := (Array.getElem?_eq_some_iff.1 hj).1; simpa using this
        have := List.all_eq_true.1 hG j (List.mem_range.2 hlt)
        have hj2 : all[j]? = some oj := by simpa using hj
        simp only [hi, hj2, Bool.or_eq_true, Bool.and_eq_true, beq_iff_eq, hne, false_or, hun, Bool.false_eq_true, List.contains_eq_mem, decide_eq_true_eq, hno] at this
        exact this
      have hrdy : i ∈ Region.ready .any all.toArray listed := by simpa using hready
      rcases guard_sound H o rfl with ⟨hw, hA⟩ | ⟨hw, hB⟩
      · obtain ⟨hd, v, hk, hv⟩ := opPW_sound (ty := o.type) hA
        refine anyB_firstP (pre_RB m) hi' (Region.noSelect_spec hsel) Bk hb2 rest.size listed _ w hfr hb1 hrdy (v := v) ?_ ?_
        · refine .inl ⟨hw, fun w' hr' => ⟨hd, ?_⟩⟩
          rw [eval_ev, execOp_only, hv w']
          exact ⟨⟨rfl, rfl⟩, Rest.refl _⟩
        · rw [put_putE]
          exact execB_sound hsel rest _ _ d w hr hok hk
      · refine anyB_firstP (pre_RB m) hi' (Region.noSelect_spec hsel) Bk hb2 rest.size listed _ w hfr hb1 hrdy (v := undef) (.inr ⟨hw, rfl⟩) ?_
        rw [put_putE]
        exact execB_sound hsel rest _ _ d w hr hok hB
  | .keep i rest, listed, e, d, w, hr, hok, H => by
    intro w1 hr1 hR1
    simp only [okB, Bool.and_eq_true, decide_eq_true_eq] at hok
    obtain ⟨h1, hok⟩ := hok
    unfold execB at H
    rw [← show w1.heap = w.heap from hR1] at H
    rw [h1]
    refine ⟨fun h => by simp at h, fun q hq => ?_⟩
    have hq : q = i := by simpa using hq
    subst hq
    refine stO_sound (G := fun _ => true) (Kx := fun e h'' => execB P m all rest k e d h'') (stO_mono H fun e h hk => ⟨fun _ => hk.1, hk.2⟩) fun e2 w2 hr2 K2 => ?_
    exact execB_sound hsel rest _ _ d w2 (hr.trans (hr1.trans hr2)) hok K2
  | .fork x y a b, listed, e, d, w, hr, hok, H => by
    intro w1 hr1 hR1
    simp only [okB, Bool.and_eq_true, decide_eq_true_eq] at hok
    obtain ⟨h1, h2, o1, o2⟩ := hok
    unfold execB at H
    rw [← show w1.heap = w.heap from hR1] at H
    obtain ⟨A, B⟩ := H
    rw [h1]
    refine ⟨fun h => by simp at h, fun q hq => ?_⟩
    have hq : q = x ∨ q = y := by simpa using hq
    rcases hq with rfl | rfl
    · refine stO_sound (G := fun _ => true) (Kx := fun e h'' => execB P m all a k e d h'') (stO_mono A fun e h hk => ⟨fun _ => hk.1, hk.2⟩) fun e2 w2 hr2 K2 => ?_
      exact execB_sound hsel a _ _ d w2 (hr.trans (hr1.trans hr2)) o1 K2
    · refine stO_sound (G := fun _ => true) (Kx := fun e h'' => execB P m all b k e d h'') (stO_mono B fun e h hk => ⟨fun _ => hk.1, hk.2⟩) fun e2 w2 hr2 K2 => ?_
      have := execB_sound (w0 := w0) hsel b _ _ d w2 (hr.trans (hr1.trans hr2)) o2 K2
      rw [← h2] at this
      exact this
  | .fork3 x y z a b c, listed, e, d, w, hr, hok, H => by
    intro w1 hr1 hR1
    simp only [okB, Bool.and_eq_true, decide_eq_true_eq] at hok
    obtain ⟨h1, h2, h3, o1, o2, o3⟩ := hok
    unfold execB at H
    rw [← show w1.heap = w.heap from hR1] at H
    obtain ⟨A, B, C⟩ := H
    rw [h1]
    refine ⟨fun h => by simp at h, fun q hq => ?_⟩
    have hq : q = x ∨ q = y ∨ q = z := by simpa using hq
    rcases hq with rfl | rfl | rfl
    · refine stO_sound (G := fun _ => true) (Kx := fun e h'' => execB P m all a k e d h'') (stO_mono A fun e h hk => ⟨fun _ => hk.1, hk.2⟩) fun e2 w2 hr2 K2 => ?_
      exact execB_sound hsel a _ _ d w2 (hr.trans (hr1.trans hr2)) o1 K2
    · refine stO_sound (G := fun _ => true) (Kx := fun e h'' => execB P m all b k e d h'') (stO_mono B fun e h hk => ⟨fun _ => hk.1, hk.2⟩) fun e2 w2 hr2 K2 => ?_
      have := execB_sound (w0 := w0) hsel b _ _ d w2 (hr.trans (hr1.trans hr2)) o2 K2
      rw [← h2] at this
      exact this
    · refine stO_sound (G := fun _ => true) (Kx := fun e h'' => execB P m all c k e d h'') (stO_mono C fun e h hk => ⟨fun _ => hk.1, hk.2⟩) fun e2 w2 hr2 K2 => ?_
      have := execB_sound (w0 := w0) hsel c _ _ d w2 (hr.trans (hr1.trans hr2)) o3 K2
      rw [← h3] at this
      exact this
theorem WP_treeB (hm : P.follows .mixedOrders = true) (m : Nat) {id : Nat} {all : List Oper} {k : Cont} {e : Env} {d : List Deferred} {h : Heap} (t : PB)
    (hsel : Region.noSelect all.toArray = true) (hlen : t.size = all.length) (hok : okB all t (Array.replicate all.length false) = true)
    (H : execB P m all t k e d h) : WP l P (.region id all.toArray true) k e d h := by
  unfold WP
  intro w hw
  subst hw
  refine wpIn_region_any hm ?_
  have h1 := execB_sound (w0 := w) hsel t _ e d { w with drawn := w.drawn + 1 } ⟨rfl, rfl, rfl⟩ hok H
  rw [hlen] at h1
  have h2 := wpAny_of_anyB (l := l) (Q' := fun x a w' => k x a.tmps.toList a.defers w'.heap ∧ Rest w w') (fun a w' hq => hq) _ _ _ _ h1
  simpa using h2
variable {all : List Oper} {rest : PB} {k : Cont} {e : Env} {d : List Deferred} {h : Heap} {dst : Option Tmp} {op : Op} {ty : TypeId} {pos : String} {after : Array Edge} {i x y z : Nat} {a b c : PB}
def setB (P : Program) (m : Nat) (all : List Oper) (rest : PB) (k : Cont) (dst : Option Tmp) (e : Env) (d : List Deferred) : Value → Heap → Prop := fun v h => execB P m all rest k (putE e dst v) d h
theorem setB_eq {v : Value} : setB P m all rest k dst e d v h = execB P m all rest k (putE e dst v) d h := eqi rfl
def stBl (P : Program) (m : Nat) (o : Option Oper) (all : List Oper) (rest : PB) (k : Cont) (e : Env) (d : List Deferred) (h : Heap) : Prop :=
  match o with
  | some o => guardW o.guard all e (fun e => ldB P m o.op e h (fun v h' => setB P m all rest k o.dst e d v h')) (fun e => execB P m all rest k (putE e o.dst undef) d h)
  | none => False
def stBp (P : Program) (m : Nat) (o : Option Oper) (all : List Oper) (rest : PB) (k : Cont) (e : Env) (d : List Deferred) (h : Heap) : Prop :=
  match o with
  | some o => guardW o.guard all e (fun e => opPW P o.op e h (fun v h' => setB P m all rest k o.dst e d v h')) (fun e => execB P m all rest k (putE e o.dst undef) d h)
  | none => False
theorem execB_fin : execB P m all .fin k e d h = k .normal e d h := eqi rfl
theorem execB_load : execB P m all (.load i rest) k e d h = stBl P m all[i]? all rest k e d h := by simp only [execB, stBl, setB]
theorem execB_pure : execB P m all (.pure i rest) k e d h = stBp P m all[i]? all rest k e d h := by simp only [execB, stBp, setB]
def gB (v : Value) (s : Tmp) (want : Bool) (F : Env → Prop) (all : List Oper) (P : Program) (m : Nat) (rest : PB) (k : Cont) (dst : Option Tmp) (e : Env) (d : List Deferred) (h : Heap) : Prop :=
  boolW v (fun b => if b = want then F (e.set s (.bool b)) else execB P m all rest k (putE (e.set s (.bool b)) dst undef) d h) (execB P m all rest k (putE e dst undef) d h)
def gBo (s : Option Tmp) (want : Bool) (F : Env → Prop) (all : List Oper) (P : Program) (m : Nat) (rest : PB) (k : Cont) (dst : Option Tmp) (e : Env) (d : List Deferred) (h : Heap) : Prop :=
  match s with | some s => gB (e.getD s undef) s want F all P m rest k dst e d h | none => execB P m all rest k (putE e dst undef) d h
theorem ldB_load {t : TypeId} {x : Operand} {K : Value → Heap → Prop} : ldB P m (.load t x) e h K = (oldP m (ev e x) ∧ loadW P t (ev e x) h K) := eqi rfl
theorem oldP_ptr {b o : Nat} {s : _} : oldP m (.pointer (some ⟨b, o, s⟩)) = (b < m) := eqi rfl
theorem stBl_plain : stBl P m (some ⟨dst, op, ty, pos, after, none⟩) all rest k e d h = ldB P m op e h (setB P m all rest k dst e d) := by simp only [stBl, guardW]
theorem stBp_plain : stBp P m (some ⟨dst, op, ty, pos, after, none⟩) all rest k e d h = opPW P op e h (setB P m all rest k dst e d) := by simp only [stBp, guardW]
theorem stBl_guard {j : Nat} {want : Bool} : stBl P m (some ⟨dst, op, ty, pos, after, some (j, want)⟩) all rest k e d h = gBo (gslot all j) want (fun e => ldB P m op e h (setB P m all rest k dst e d)) all P m rest k dst e d h := by
  simp only [stBl, guardW, gBo]; cases gslot all j <;> rfl
theorem stBp_guard {j : Nat} {want : Bool} : stBp P m (some ⟨dst, op, ty, pos, after, some (j, want)⟩) all rest k e d h = gBo (gslot all j) want (fun e => opPW P op e h (setB P m all rest k dst e d)) all P m rest k dst e d h := by
  simp only [stBp, guardW, gBo]; cases gslot all j <;> rfl
theorem gBo_some {s : Tmp} {want : Bool} {F : Env → Prop} : gBo (some s) want F all P m rest k dst e d h = gB (e.getD s undef) s want F all P m rest k dst e d h := eqi rfl
theorem gB_tt {s : Tmp} {F : Env → Prop} : gB (.bool true) s true F all P m rest k dst e d h = F (e.set s (.bool true)) := by simp [gB, boolW]
theorem gB_ff {s : Tmp} {F : Env → Prop} : gB (.bool false) s false F all P m rest k dst e d h = F (e.set s (.bool false)) := by simp [gB, boolW]
theorem gB_tf {s : Tmp} {F : Env → Prop} : gB (.bool true) s false F all P m rest k dst e d h = execB P m all rest k (putE (e.set s (.bool true)) dst undef) d h := by simp [gB, boolW]
theorem gB_ft {s : Tmp} {F : Env → Prop} : gB (.bool false) s true F all P m rest k dst e d h = execB P m all rest k (putE (e.set s (.bool false)) dst undef) d h := by simp [gB, boolW]
theorem gB_undef {s : Tmp} {w : Bool} {vs : Array Value} {F : Env → Prop} : gB (.tuple vs) s w F all P m rest k dst e d h = execB P m all rest k (putE e dst undef) d h := by simp [gB, boolW]
theorem execB_keep (H : stO P all all[i]? e h (fun e h'' => RB m h h'' ∧ execB P m all rest k e d h'')) : execB P m all (.keep i rest) k e d h := H
theorem execB_fork (A : stO P all all[x]? e h (fun e h'' => RB m h h'' ∧ execB P m all a k e d h'')) (B : stO P all all[y]? e h (fun e h'' => RB m h h'' ∧ execB P m all b k e d h'')) : execB P m all (.fork x y a b) k e d h := ⟨A, B⟩
set_option linter.defProp false
def treeB := And.intro (And.intro (And.intro @execB_fin (And.intro @execB_load @execB_pure)) (And.intro (And.intro @stBl_plain @stBp_plain) (And.intro @stBl_guard @stBp_guard)))
  (And.intro (And.intro (And.intro @gBo_some @setB_eq) (And.intro @ldB_load @oldP_ptr)) (And.intro (And.intro @gB_tt @gB_ff) (And.intro @gB_tf (And.intro @gB_ft @gB_undef))))
end treeB
end Go.Eng
end
section
set_option linter.unusedVariables false
set_option linter.unusedSimpArgs false
namespace Go.Eng
open Go
section loopd
variable {l : Option Nat} {P : Program}
def roundD (e0 : Env) (ws : List Nat) (I : (Nat → Value) → List Deferred → Heap → Prop) (μ : (Nat → Value) → Heap → Nat) (n : Nat) (e : Env) (d : List Deferred) (h : Heap) : Prop :=
  e = mkE e0 ws (fun i => e.getD i undef) ∧ I (fun i => e.getD i undef) d h ∧ μ (fun i => e.getD i undef) h < n
theorem roundD_mk {e0 e : Env} {d : List Deferred} {ws : List Nat} {I : (Nat → Value) → List Deferred → Heap → Prop} {μ : (Nat → Value) → Heap → Nat} {n : Nat} {h : Heap}
    (h1 : e = mkE e0 ws (fun i => e.getD i undef)) (h2 : I (fun i => e.getD i undef) d h) (h3 : μ (fun i => e.getD i undef) h < n) : roundD e0 ws I μ n e d h := ⟨h1, h2, h3⟩
theorem WP_loopD {c : Code} {k : Cont} {e : Env} {d : List Deferred} {h : Heap} (ws : List Nat) (I : (Nat → Value) → List Deferred → Heap → Prop) (μ : (Nat → Value) → Heap → Nat)
    (h0 : I (fun i => e.getD i undef) d h)
    (round : ∀ g d' h', I g d' h' → exec l P c (thenK (roundD e ws I μ (μ g h')) k) (mkE e ws g) d' h') : WP l P (.loop c) k e d h := by
  unfold WP
  intro w hw
  refine wpIn_loop (fun a w' => (a.tmps.toList = mkE e ws (fun i => a.tmps.toList.getD i undef) ∧ I (fun i => a.tmps.toList.getD i undef) a.defers w'.heap) ∧ Rest w w')
    (fun a w' => μ (fun i => a.tmps.toList.getD i undef) w'.heap) ⟨⟨by rw [mkE_self], by subst hw; simpa using h0⟩, Rest.refl w⟩ ?_
  rintro a w' ⟨⟨he', hI⟩, hr⟩
  have h1 := round _ _ w'.heap hI
  rw [← he'] at h1
  have h1 := exec_sound _ _ _ _ _ h1
  unfold WP at h1
  have h1 := h1 w' rfl
  rw [toList_act] at h1
  refine wpIn_mono h1 ?_
  rintro x a' w'' ⟨hq, hr'⟩
  cases x with
  | normal =>
    unfold thenK at hq
    obtain ⟨q1, q2, q3⟩ := hq
    exact ⟨⟨⟨q1, q2⟩, hr.trans hr'⟩, q3⟩
  | _ => unfold thenK at hq; exact ⟨hq, hr.trans hr'⟩
attribute [irreducible] roundD
def Marks (m0 m1 : Nat) (h : Heap) (d : List Deferred) : Prop := ∃ rs : List Nat, d = rs.map mkD ∧ rs.Nodup ∧ ∀ r ∈ rs, m0 ≤ r ∧ r < m1 ∧ h[r]? = some (.deferred (some []))
theorem Marks.nil (m0 m1 : Nat) (h : Heap) : Marks m0 m1 h [] := ⟨[], rfl, List.nodup_nil, by simp⟩
theorem Marks.keep {m0 m1 : Nat} {h h' : Heap} {d : List Deferred} (M : Marks m0 m1 h d) (hk : ∀ r, m0 ≤ r → r < m1 → ∀ o, h[r]? = some o → h'[r]? = some o) : Marks m0 m1 h' d := by
  obtain ⟨rs, h1, h2, h3⟩ := M
  exact ⟨rs, h1, h2, fun r hr => ⟨(h3 r hr).1, (h3 r hr).2.1, hk r (h3 r hr).1 (h3 r hr).2.1 _ (h3 r hr).2.2⟩⟩
theorem Marks.ext {m0 m1 : Nat} {h h' : Heap} {d : List Deferred} (M : Marks m0 m1 h d) (x : Ext h h') : Marks m0 m1 h' d := M.keep fun _ _ _ _ ho => x.get ho
theorem Marks.upd {m0 m1 b : Nat} {h h' : Heap} {d : List Deferred} (M : Marks m0 m1 h d) (u : Upd h h' b) (hb : b < m0 ∨ m1 ≤ b) : Marks m0 m1 h' d := M.keep fun r h1 h2 _ ho => u.get ho (by omega)
theorem Marks.mono {m0 m1 m2 : Nat} {h : Heap} {d : List Deferred} (M : Marks m0 m1 h d) (hm : m1 ≤ m2) : Marks m0 m2 h d := by
  obtain ⟨rs, h1, h2, h3⟩ := M
  exact ⟨rs, h1, h2, fun r hr => ⟨(h3 r hr).1, Nat.lt_of_lt_of_le (h3 r hr).2.1 hm, (h3 r hr).2.2⟩⟩
theorem Marks.cons {m0 m1 m2 r : Nat} {h : Heap} {d : List Deferred} (M : Marks m0 m1 h d) (hr : h[r]? = some (.deferred (some []))) (h0 : m0 ≤ r) (h1 : m1 ≤ r) (h2 : r < m2) : Marks m0 m2 h (mkD r :: d) := by
  obtain ⟨rs, h3, h4, h5⟩ := M
  refine ⟨r :: rs, by rw [h3]; rfl, List.nodup_cons.2 ⟨fun hm => ?_, h4⟩, fun q hq => ?_⟩
  · have := (h5 r hm).2.1; omega
  · rcases List.mem_cons.1 hq with rfl | hq
    · exact ⟨h0, h2, hr⟩
    · have := h5 q hq; exact ⟨this.1, by omega, this.2.2⟩
end loopd
end Go.Eng
end
section
namespace Go.Proofs.YtmgkeeefbfefgaaGreat
open Go Go.Proofs Go.Eng Go.Run Tab
set_option maxRecDepth 100000
set_option linter.unusedSimpArgs false
set_option linter.unusedVariables false
set_option linter.defProp false
set_option maxHeartbeats 2000000
set_option linter.defProp false
def M17Fs48 := (And.intro (And.intro (And.intro @agg22 (And.intro @agg3 @by72)) (And.intro (And.intro @fo24_2 @fo72_0) (And.intro @fo72_1 @fo81_0))) (And.intro (And.intro @inf22 (And.intro @inf3 @inf72)) (And.intro (And.intro @sz22 @sz3) (And.intro @sz72 @Tryz.underlying22))))
def M17Fs66 := (And.intro (And.intro (And.intro @agg25 @agg3) (And.intro @by3 @inf25)) (And.intro (And.intro @inf3 @sz25) (And.intro @sz3 @Tryz.underlying25)))
def M17Fs98 := (And.intro (And.intro (And.intro @agg22 (And.intro @agg3 @agg44)) (And.intro @fo24_2 (And.intro @fo81_0 @inf22))) (And.intro (And.intro @inf3 (And.intro @inf44 @sz22)) (And.intro @sz3 (And.intro @sz44 @Tryz.underlying22))))
theorem clash65 (g b S M : Nat) (a : Option Addr) (n c : Nat) (ws : List Wn) (i k : Nat) (h : Eng.Heap) (hg : DeskB h g b S M a n c) (hr : Row h a (wsV ws)) (hn : n = ws.length) (V : Vb S M ws) (hi : i < ws.length) (hk : k < ws.length) :
    CallsH Tryz.prog 48 #[.pointer (some ⟨g, 0, none⟩), .int .i64 i, .int .i64 k] h (fun v h' => v = .bool (MB.clash (shN ws) (moN ws) i k) ∧ h' = h) := by
  unfold DeskB at hg
  (refine CallsH_of_exec Tryz.func48 rfl bod48 ?_; simp only [Tryz.ntmps48, Tryz.results48, coreS, stK_some, splice, Value.cells, Value.oneCell', Nat.reduceAdd, Nat.reduceSub, Nat.reduceMul, Nat.reduceLeDiff, Int.reduceEq, Nat.reduceEqDiff, M17Fs48])
  have fa := faR hr hi
  have a0 := cellW0 hr hi
  have a1 := cellW1 hr hi
  have b0 := cellW0 hr hk
  have b1 := cellW1 hr hk
  rw [(V.s hi).1] at a0
  rw [(V.m hi).1] at a1
  rw [(V.s hk).1] at b0
  rw [(V.m hk).1] at b1
  have hsm := rowW_some hr hi
  have hcl : MB.clash (shN ws) (moN ws) i k = (decide (((shN ws i : Nat) : Int) = (shN ws k : Nat)) || decide (((moN ws i : Nat) : Int) = (moN ws k : Nat))) := by
    unfold MB.clash
    congr 1
    · rw [Bool.eq_iff_iff]; simp; omega
    · rw [Bool.eq_iff_iff]; simp; omega
  rw [hcl]
  refine WP_draw (by kernel_rfl) sta_eq [(0, 0), (1, 0), (2, 0), (3, 0), (4, 0), (5, 0), (6, 0), (7, 0), (8, 0), (9, 0), (10, 0), (11, 0), (12, 0), (13, 0), (14, 0), (15, 0), (16, 0), (17, 0), (18, 0), (19, 0), (20, 0), (21, 0), (22, 0), (23, 0), (24, 0), (25, 0), (26, 0), (27, 0), (28, 0), (29, 0), (30, 0), (31, 0), (32, 0), (33, 0), (34, 0), (35, 0), (36, 0), (37, 0), (38, 0), (39, 0), (40, 0)] (by kernel_rfl) rfl (by kernel_rfl) ?_
  by_cases h1 : ((shN ws i : Nat) : Int) = (shN ws k : Nat)
  · simp only [hg, fa, a0, a1, b0, b1, h1, decide_true, hvK_eq, Int.toNat_natCast, coreS, Value.cells, Value.oneCell', Nat.reduceAdd, Nat.reduceSub, Nat.reduceMul, Nat.reduceLeDiff, Int.reduceEq, Nat.reduceEqDiff, drawS, M17Fs48]
    refine ⟨⟨by omega, by omega⟩, hsm, ⟨by omega, by omega⟩, hsm, ?_⟩
    simp
  · simp only [hg, fa, a0, a1, b0, b1, h1, decide_false, hvK_eq, Int.toNat_natCast, coreS, Value.cells, Value.oneCell', Nat.reduceAdd, Nat.reduceSub, Nat.reduceMul, Nat.reduceLeDiff, Int.reduceEq, Nat.reduceEqDiff, drawS, M17Fs48]
    refine ⟨⟨by omega, by omega⟩, hsm, ⟨by omega, by omega⟩, hsm, ⟨by omega, by omega⟩, hsm, ⟨by omega, by omega⟩, hsm, ?_⟩
    simp
def nrB (ws : List Wn) (i k : Nat) : Bool := decide (k ≠ i) && MB.clash (shN ws) (moN ws) i k
def nrL (ws : List Wn) (i n : Nat) : List Nat := (List.range n).filter (nrB ws i)
def nrX (l : List Nat) : List (List Value) := l.map fun k : Nat => [.int .i64 k]
theorem nrL_yes {ws : List Wn} {i k : Nat} (h : nrB ws i k = true) : nrL ws i (k + 1) = nrL ws i k ++ [k] := by
  simp [nrL, List.range_succ, List.filter_append, h]
theorem nrL_no {ws : List Wn} {i k : Nat} (h : nrB ws i k = false) : nrL ws i (k + 1) = nrL ws i k := by
  simp [nrL, List.range_succ, List.filter_append, h]
theorem nrL_pre {ws : List Wn} {i k n : Nat} (h : k ≤ n) : ∃ M, nrL ws i n = nrL ws i k ++ M ∧ ∀ x ∈ M, k ≤ x := by
  obtain ⟨m, rfl⟩ : ∃ m, n = k + m := ⟨n - k, by omega⟩
  refine ⟨((List.range m).map (fun x => k + x)).filter (nrB ws i), ?_, ?_⟩
  · rw [nrL, nrL, List.range_add, List.filter_append]
  · intro x hx
    obtain ⟨y, _, rfl⟩ := List.mem_map.1 (List.mem_filter.1 hx).1
    omega
theorem nrL_at {ws : List Wn} {i k n : Nat} (hk : k < n) (h : nrB ws i k = true) : (nrL ws i n)[(nrL ws i k).length]? = some k := by
  obtain ⟨M, hM, _⟩ := nrL_pre (ws := ws) (i := i) (show k + 1 ≤ n by omega)
  rw [hM, nrL_yes h, List.append_assoc, List.getElem?_append_right (Nat.le_refl _), Nat.sub_self]
  rfl
theorem near112 (g : Nat) (i : Int) (h : Eng.Heap) : CallsH Tryz.prog 83 #[.pointer (some ⟨g, 0, none⟩), .int .i64 i] h (fun v h' => v = .func (.func 98) #[] #[.pointer (some ⟨h.size, 0, none⟩), .pointer (some ⟨h.size + 1, 0, none⟩)] ∧ h' = (h.push (.cells #[.pointer (some ⟨g, 0, none⟩)] 44)).push (.cells #[.int .i64 i] 3)) := by
  (refine CallsH_of_exec Tryz.func83 rfl bod83 ?_; simp only [Tryz.ntmps83, Tryz.results83, coreS, stK_some, splice, Value.cells, Value.oneCell', Nat.reduceAdd, Nat.reduceSub, Nat.reduceMul, Nat.reduceLeDiff, Int.reduceEq, Nat.reduceEqDiff])
theorem near120 (lo b1 b2 g b S M : Nat) (a : Option Addr) (n c : Nat) (ws : List Wn) (i : Nat) (h : Eng.Heap) (hn : n = ws.length) (V : Vb S M ws) (hi : i < ws.length) (J : Nat → Eng.Heap → Prop) (E : Eng.Heap → Prop)
    (hF : ∀ k h', J k h' → Row h' a (wsV ws) ∧ DeskB h' g b S M a n c ∧ h'[b1]? = some (.cells #[.pointer (some ⟨g, 0, none⟩)] 44) ∧ h'[b2]? = some (.cells #[.int .i64 (i : Int)] 3)) (h0 : J 0 h)
    (step : ∀ k h' vs, (nrX (nrL ws i n))[k]? = some vs → J k h' → CallY Tryz.prog (.func (.yield lo) #[] #[]) vs h' (fun v h'' => (v = .bool true ∧ J (k + 1) h'') ∨ (v = .bool false ∧ E h''))) :
    CallsH Tryz.prog 98 (#[] ++ #[.func (.yield lo) #[] #[]] ++ #[.pointer (some ⟨b1, 0, none⟩), .pointer (some ⟨b2, 0, none⟩)]) h (fun _ h' => J (nrX (nrL ws i n)).length h' ∨ E h') := by
  simp only [Array.append_empty, Array.empty_append, List.append_toArray, List.cons_append, List.nil_append]
  obtain ⟨hr, k1, k2, k3⟩ := hF 0 h h0
  have hV := V.n
  have elen : ∀ k, (nrX (nrL ws i k)).length = (nrL ws i k).length := fun k => by simp [nrX]
  unfold DeskB at k1
  (refine CallsH_of_exec Tryz.func98 rfl bod98 ?_; simp only [Tryz.ntmps98, Tryz.results98, coreS, stK_some, splice, Value.cells, Value.oneCell', Nat.reduceAdd, Nat.reduceSub, Nat.reduceMul, Nat.reduceLeDiff, Int.reduceEq, Nat.reduceEqDiff, M17Fs98])
  simp only [k1, k2, coreS, Value.cells, Value.oneCell', Nat.reduceAdd, Nat.reduceSub, Nat.reduceMul, Nat.reduceLeDiff, Int.reduceEq, Nat.reduceEqDiff, M17Fs98]
  refine WP_loopI [4, 11, 12, 13, 14, 15, 16, 17, 18, 19, 20, 21, 22, 23, 24, 25, 26, 27, 28, 29] (fun g h' => ∃ k : Nat, k ≤ n ∧ g 11 = .int .i64 k ∧ J (nrL ws i k).length h') (fun g _ => match g 11 with | .int _ m => n - m.toNat | _ => 0) ⟨0, by omega, rfl, h0⟩ ?_
  rintro e h' ⟨k, hk, he, hJ⟩
  obtain ⟨r1, r2, r3, r4⟩ := hF _ _ hJ
  by_cases hkn : k < n
  · have hlt : (k : Int) < (n : Int) := by omega
    have next : ∀ h2, J (nrL ws i (k + 1)).length h2 → ∃ q : Nat, q ≤ n ∧ (Value.int .i64 ((k : Int) + 1)) = .int .i64 (q : Nat) ∧ J (nrL ws i q).length h2 := fun h2 hh => ⟨k + 1, by omega, rfl, hh⟩
    by_cases hki : (k : Int) = (i : Int)
    · obtain rfl : k = i := by omega
      have hb : nrB ws k k = false := by simp [nrB]
      simp only [he, hlt, r4, eq_self, decide_true, Bool.not_true, coreS, Value.cells, Value.oneCell', Nat.reduceAdd, Nat.reduceSub, Nat.reduceMul, Nat.reduceLeDiff, Int.reduceEq, Nat.reduceEqDiff, scopeK_normal, scopeK_ret, scopeK_exit, callV_yield, binds_cons, binds_nil, M17Fs98]
      refine ⟨by rw [inK_i64]; omega, roundK_mk (by kernel_rfl) ⟨k + 1, by omega, rfl, by rw [nrL_no hb]; exact hJ⟩ ?_⟩
      show n - ((k : Int) + 1).toNat < n - (k : Int).toNat
      omega
    · simp only [he, hlt, r3, r4, hki, decide_true, decide_false, Bool.not_false, coreS, Value.cells, Value.oneCell', Nat.reduceAdd, Nat.reduceSub, Nat.reduceMul, Nat.reduceLeDiff, Int.reduceEq, Nat.reduceEqDiff, scopeK_normal, scopeK_ret, scopeK_exit, callV_yield, binds_cons, binds_nil, M17Fs98]
      refine CallsH.mono (clash65 g b S M a n c ws i k h' r2 r1 hn V hi (by omega)) ?_
      rintro v h2 ⟨rfl, rfl⟩
      cases hcl : MB.clash (shN ws) (moN ws) i k with
      | false =>
        have hb : nrB ws i k = false := by simp [nrB, hcl]
        simp only [he, coreS, Value.cells, Value.oneCell', Nat.reduceAdd, Nat.reduceSub, Nat.reduceMul, Nat.reduceLeDiff, Int.reduceEq, Nat.reduceEqDiff, scopeK_normal, scopeK_ret, scopeK_exit, callV_yield, binds_cons, binds_nil, M17Fs98]
        refine ⟨by rw [inK_i64]; omega, roundK_mk (by kernel_rfl) ⟨k + 1, by omega, rfl, by rw [nrL_no hb]; exact hJ⟩ ?_⟩
        show n - ((k : Int) + 1).toNat < n - (k : Int).toNat
        omega
      | true =>
        have hb : nrB ws i k = true := by
          have : k ≠ i := fun e => hki (by rw [e])
          simp [nrB, hcl, this]
        simp only [coreS, Value.cells, Value.oneCell', Nat.reduceAdd, Nat.reduceSub, Nat.reduceMul, Nat.reduceLeDiff, Int.reduceEq, Nat.reduceEqDiff, scopeK_normal, scopeK_ret, scopeK_exit, callV_yield, binds_cons, binds_nil, M17Fs98]
        have hst := step _ h2 [.int .i64 (k : Int)] (by rw [nrX, List.getElem?_map, nrL_at hkn hb]; rfl) hJ
        refine hst.run1 rfl rfl ?_
        rintro v h3 (⟨rfl, hJ2⟩ | ⟨rfl, hE⟩)
        · simp only [he, Bool.not_true, coreS, Value.cells, Value.oneCell', Nat.reduceAdd, Nat.reduceSub, Nat.reduceMul, Nat.reduceLeDiff, Int.reduceEq, Nat.reduceEqDiff, scopeK_normal, scopeK_ret, scopeK_exit, callV_yield, binds_cons, binds_nil, M17Fs98]
          refine ⟨by rw [inK_i64]; omega, roundK_mk (by kernel_rfl) ⟨k + 1, by omega, rfl, by rw [nrL_yes hb, List.length_append]; exact hJ2⟩ ?_⟩
          show n - ((k : Int) + 1).toNat < n - (k : Int).toNat
          omega
        · simp only [Bool.not_false, coreS, Value.cells, Value.oneCell', Nat.reduceAdd, Nat.reduceSub, Nat.reduceMul, Nat.reduceLeDiff, Int.reduceEq, Nat.reduceEqDiff, scopeK_normal, scopeK_ret, scopeK_exit, callV_yield, binds_cons, binds_nil, M17Fs98]
          exact .inr hE
  · obtain rfl : k = n := by omega
    have hlt : ¬ ((k : Int) < (k : Int)) := by omega
    simp only [he, hlt, decide_false, coreS, Value.cells, Value.oneCell', Nat.reduceAdd, Nat.reduceSub, Nat.reduceMul, Nat.reduceLeDiff, Int.reduceEq, Nat.reduceEqDiff, scopeK_normal, scopeK_ret, scopeK_exit, callV_yield, binds_cons, binds_nil, M17Fs98]
    rw [elen]
    exact .inl hJ
theorem near_seq {b1 b2 g b S M : Nat} {a : Option Addr} {n c : Nat} {ws : List Wn} {i : Nat} (hn : n = ws.length) (V : Vb S M ws) (hi : i < ws.length) :
    SeqOf Tryz.prog (.func (.func 98) #[] #[.pointer (some ⟨b1, 0, none⟩), .pointer (some ⟨b2, 0, none⟩)]) (fun h' => Row h' a (wsV ws) ∧ DeskB h' g b S M a n c ∧ h'[b1]? = some (.cells #[.pointer (some ⟨g, 0, none⟩)] 44) ∧ h'[b2]? = some (.cells #[.int .i64 (i : Int)] 3)) (nrX (nrL ws i n)) :=
  ⟨98, _, _, rfl, fun lo h0 J E hx hJ step => near120 lo b1 b2 g b S M a n c ws i h0 hn V hi J E hx hJ step⟩
theorem of95 (p1 p2 p3 n : Nat) (b : Option Addr) (k : Nat) (days : List Int) (w d : Nat) (i : Nat) (h : Eng.Heap) (h1 : h[p1]? = some (.cells #[.slice b n k] 25)) (h2 : h[p2]? = some (.cells #[.int .i64 (d : Nat)] 3)) (h3 : h[p3]? = some (.cells #[.int .i64 (w : Nat)] 3)) (hd : IntsV h b n days) (hi : i < n) (hw : w < n) :
    CallsH Tryz.prog 66 (#[] ++ #[.int .i64 i] ++ #[.pointer (some ⟨p1, 0, none⟩), .pointer (some ⟨p2, 0, none⟩), .pointer (some ⟨p3, 0, none⟩)]) h (fun v h' => v = .bool (decide (days.getD i 0 = (d : Nat)) || decide (days.getD i 0 = days.getD w 0)) ∧ h' = h) := by
  simp only [Array.append_empty, Array.empty_append, List.append_toArray, List.cons_append, List.nil_append]
  have hl := hd.len
  have c1 := hd.cell (j := i) (by omega)
  have c2 := hd.cell (j := w) (by omega)
  have sb := hd.isSome (by omega)
  (refine CallsH_of_exec Tryz.func66 rfl bod66 ?_; simp only [Tryz.ntmps66, Tryz.results66, coreS, stK_some, splice, Value.cells, Value.oneCell', Nat.reduceAdd, Nat.reduceSub, Nat.reduceMul, Nat.reduceLeDiff, Int.reduceEq, Nat.reduceEqDiff, M17Fs66])
  refine WP_draw (by kernel_rfl) sta_eq [(0, 0), (1, 0), (2, 0), (3, 0), (4, 0), (5, 0), (6, 0), (7, 0), (8, 0), (9, 0), (10, 0), (11, 0), (12, 0), (13, 0), (14, 0), (15, 0), (16, 0), (17, 0)] (by kernel_rfl) rfl (by kernel_rfl) ?_
  by_cases hc : days.getD i 0 = (d : Nat)
  · simp only [h1, h2, h3, c1, c2, hc, decide_true, Int.toNat_natCast, hvK_eq, coreS, Value.cells, Value.oneCell', Nat.reduceAdd, Nat.reduceSub, Nat.reduceMul, Nat.reduceLeDiff, Int.reduceEq, Nat.reduceEqDiff, drawS, M17Fs66]
    refine ⟨⟨by omega, by omega⟩, sb, ?_⟩
    simp
  · simp only [h1, h2, h3, c1, c2, hc, decide_false, Int.toNat_natCast, hvK_eq, coreS, Value.cells, Value.oneCell', Nat.reduceAdd, Nat.reduceSub, Nat.reduceMul, Nat.reduceLeDiff, Int.reduceEq, Nat.reduceEqDiff, drawS, M17Fs66]
    refine ⟨⟨by omega, by omega⟩, sb, ⟨by omega, by omega⟩, sb, ⟨by omega, by omega⟩, sb, ?_⟩
    simp
end Go.Proofs.YtmgkeeefbfefgaaGreat
end
section
namespace Go.Proofs.YtmgkeeefbfefgaaGreat
open Go Go.Proofs Go.Eng Go.Run Tab
set_option maxRecDepth 100000
set_option linter.unusedSimpArgs false
set_option linter.unusedVariables false
set_option linter.defProp false
set_option maxHeartbeats 4000000
set_option linter.defProp false
def M18Fs67 := (And.intro (And.intro (And.intro @agg25 (And.intro @agg3 @agg69)) (And.intro @by3 (And.intro @inf25 @inf3))) (And.intro (And.intro @inf69 (And.intro @sz25 @sz3)) (And.intro (And.intro @sz69 @zero25) (And.intro @zero3 @Tryz.underlying25))))
theorem App.oth {h h' : Eng.Heap} {a a' : Option Addr} {el : TypeId} {len cap : Nat} {xs : List Int} {m c : Nat} {o : Obj} (A : App h h' a a') (O : OwnI m h el a len cap xs) (hc : h[c]? = some o) (hne : ∀ cur, o ≠ .cells cur el (0, 0)) : h'[c]? = some o :=
  (A.old c (lt_of_get hc) fun p hp hpc => by
    rcases O.ok with ⟨h1, _⟩ | ⟨g, cur, h1, h2, h3, _⟩
    · rw [h1] at hp; cases hp
    · rw [h1] at hp; cases hp
      subst hpc
      rw [hc] at h3
      exact hne cur (Option.some.inj h3)).trans hc
theorem OwnI.updO {h h' : Eng.Heap} {a : Option Addr} {el : TypeId} {len cap : Nat} {xs : List Int} {m c : Nat} {o : Obj} (O : OwnI m h el a len cap xs) (u : Upd h h' c) (hc : h[c]? = some o) (hne : ∀ cur, o ≠ .cells cur el (0, 0)) : OwnI m h' el a len cap xs :=
  O.keep fun p hp => u.old _ fun hpc => by
    rcases O.ok with ⟨h1, _⟩ | ⟨g, cur, h1, h2, h3, _⟩
    · rw [h1] at hp; cases hp
    · rw [h1] at hp; cases hp
      subst hpc
      rw [hc] at h3
      exact hne cur (Option.some.inj h3)
theorem Marks.app {h h' : Eng.Heap} {a a' : Option Addr} {el : TypeId} {len cap : Nat} {xs : List Int} {m m0 m1 : Nat} {d : List Deferred} (A : App h h' a a') (O : OwnI m h el a len cap xs) (M : Marks m0 m1 h d) : Marks m0 m1 h' d := by
  obtain ⟨rs, h1, h2, h3⟩ := M
  exact ⟨rs, h1, h2, fun r hr => ⟨(h3 r hr).1, (h3 r hr).2.1, App.oth A O (h3 r hr).2.2 fun cur hh => by cases hh⟩⟩
theorem fin_marks2 {P : Program} {rs : List ResultVar} {K : Value → Eng.Heap → Prop} {e : Eng.Env} {m0 m1 : Nat} {h : Eng.Heap} {d : List Deferred} (M : Marks m0 m1 h d)
    (H : ∀ h', h'.size = h.size → (∀ b : Nat, (b < m0 ∨ m1 ≤ b) → h'[b]? = h[b]?) → (∀ b : Nat, h[b]? ≠ some (Obj.deferred (some [])) → h'[b]? = h[b]?) → resA P rs e [] K h') : finW P rs e d h K := by
  obtain ⟨ls, rfl, hnd, hls⟩ := M
  unfold finW
  have key : ∀ (ls : List Nat) (h : Eng.Heap), ls.Nodup → (∀ r ∈ ls, m0 ≤ r ∧ r < m1 ∧ h[r]? = some (.deferred (some []))) → Marked h (ls.map mkD) ∧ (unmark h (ls.map mkD)).size = h.size ∧ (∀ b : Nat, (b < m0 ∨ m1 ≤ b) → (unmark h (ls.map mkD))[b]? = h[b]?) ∧ (∀ b : Nat, h[b]? ≠ some (Obj.deferred (some [])) → (unmark h (ls.map mkD))[b]? = h[b]?) := by
    intro ls
    induction ls with
    | nil => intro h _ _; exact ⟨trivial, rfl, fun _ _ => rfl, fun _ _ => rfl⟩
    | cons r ls ih =>
      intro h hnd hls
      have hr := hls r List.mem_cons_self
      have h2 := List.nodup_cons.1 hnd
      have := ih (h.setIfInBounds r (Obj.deferred none)) h2.2 (fun q hq => by
        have h3 := hls q (List.mem_cons_of_mem _ hq)
        exact ⟨h3.1, h3.2.1, by
          have hne : r ≠ q := fun he => h2.1 (by rw [he]; exact hq)
          rw [Array.getElem?_setIfInBounds_ne hne]; exact h3.2.2⟩)
      refine ⟨⟨r, rfl, hr.2.2, this.1⟩, ?_, fun b hb => ?_, fun b hb => ?_⟩
      · show (unmark (h.setIfInBounds r (Obj.deferred none)) (ls.map mkD)).size = _
        rw [this.2.1]; simp
      · show (unmark (h.setIfInBounds r (Obj.deferred none)) (ls.map mkD))[b]? = _
        rw [this.2.2.1 b hb, Array.getElem?_setIfInBounds_ne (by omega)]
      · show (unmark (h.setIfInBounds r (Obj.deferred none)) (ls.map mkD))[b]? = _
        have hne : r ≠ b := fun e => hb (by rw [← e]; exact hr.2.2)
        have e2 : (h.setIfInBounds r (Obj.deferred none))[b]? = h[b]? := Array.getElem?_setIfInBounds_ne hne
        rw [this.2.2.2 b (by rw [e2]; exact hb), e2]
  have := key ls h hnd hls
  exact ⟨this.1, H _ this.2.1 this.2.2.1 this.2.2.2⟩
theorem sort73_own2 (m n c : Nat) (a : Option Addr) (xs : List Int) (h : Eng.Heap) (O : OwnI m h 3 a n c xs) (hl : n ≤ 1000000) :
    CallsH Tryz.prog 55 #[.slice a n c] h (fun v h' => v = .tuple #[] ∧ (h.size ≤ h'.size ∧ ∀ b, b < h.size → (∀ p, a = some p → p.block ≠ b) → h'[b]? = h[b]?) ∧ ∃ ys, ys.Perm xs ∧ srt ys ∧ OwnI m h' 3 a n c ys) := by
  have hn := O.ln
  by_cases h0 : 0 < n
  · obtain ⟨g, tl, rfl, hg, hb, hc, hc2, _⟩ := O.block h0
    refine CallsH.mono (sort73 g c n xs tl h hb hn hl) ?_
    rintro v h' ⟨rfl, ⟨q1, q2⟩, ys, hp, hs, hb2⟩
    have e := hp.length_eq
    refine ⟨rfl, ⟨q1, fun b h1 h2 => q2 b h1 (fun e => h2 _ rfl e.symm)⟩, ys, hp, hs, ?_⟩
    have := OwnI.of_block (xs := ys) (cap := c) hg hb2 (by omega) (by omega)
    rwa [show ys.length = n by omega] at this
  · obtain rfl : n = 0 := by omega
    refine CallsH.mono (sort0 a c h) ?_
    rintro v h' ⟨rfl, rfl⟩
    obtain rfl : xs = [] := List.length_eq_zero_iff.1 hn.symm
    exact ⟨rfl, ⟨Nat.le_refl _, fun b _ _ => rfl⟩, [], List.Perm.refl _, List.Pairwise.nil, O⟩
theorem nrL_mono {ws : List Wn} {i j k : Nat} (h : j ≤ k) : (nrL ws i j).length ≤ (nrL ws i k).length := by
  obtain ⟨M, hM, _⟩ := nrL_pre (ws := ws) (i := i) h
  rw [hM, List.length_append]; omega
theorem nrL_gap {ws : List Wn} {i t y : Nat} (h : (nrL ws i t).length = (nrL ws i y).length) : ∀ z, t ≤ z → z < y → nrB ws i z = false := by
  intro z h1 h2
  cases hb : nrB ws i z with
  | false => rfl
  | true =>
    have e := congrArg List.length (nrL_yes hb)
    rw [List.length_append, List.length_singleton] at e
    have a1 := nrL_mono (ws := ws) (i := i) h1
    have a2 := nrL_mono (ws := ws) (i := i) (show z + 1 ≤ y by omega)
    omega
theorem nrL_sorted {ws : List Wn} {i n : Nat} : (nrL ws i n).Pairwise (· < ·) := List.Pairwise.filter _ List.pairwise_lt_range
theorem nrL_idx {ws : List Wn} {i n q y : Nat} (h : (nrL ws i n)[q]? = some y) : y < n ∧ nrB ws i y = true ∧ (nrL ws i y).length = q := by
  have hm := List.mem_of_getElem? h
  have hy := (List.mem_filter.1 hm).2
  have hlt := List.mem_range.1 (List.mem_filter.1 hm).1
  refine ⟨hlt, hy, ?_⟩
  have h2 := nrL_at hlt hy
  obtain ⟨q1, e1⟩ := List.getElem?_eq_some_iff.1 h
  obtain ⟨q2, e2⟩ := List.getElem?_eq_some_iff.1 h2
  have hp := List.pairwise_iff_getElem.1 (nrL_sorted (ws := ws) (i := i) (n := n))
  apply Classical.byContradiction
  intro hne
  rcases Nat.lt_or_ge (nrL ws i y).length q with h3 | h3
  · have := hp _ _ q2 q1 h3; omega
  · have := hp _ _ q1 q2 (by omega); omega
theorem bf_skip {sh mo C : Nat → Nat} {n w d q x : Nat} {ws : List Wn} {out : List Nat} (hsh : sh = shN ws) (hmo : mo = moN ws) (hx : out.getD q 0 = x) (hxo : x ∈ out) : ∀ (y t : Nat), t ≤ y → (∀ z, t ≤ z → z < y → nrB ws x z = false) → MB.Bf sh mo C n w d out q t → MB.Bf sh mo C n w d out q y
  | 0, t, ht, _, B => by
    obtain rfl : t = 0 := by omega
    exact B
  | y + 1, t, ht, hz, B => by
    by_cases e : t = y + 1
    · subst e; exact B
    · have B2 := bf_skip hsh hmo hx hxo y t (by omega) (fun z h1 h2 => hz z h1 (by omega)) B
      refine B2.skip fun hc _ => ?_
      have := hz y (by omega) (by omega)
      rw [hx, hsh, hmo] at hc
      unfold nrB at this
      rw [hc] at this
      simp at this
      rw [this]; exact hxo
theorem zsN_contains {l : List Nat} {y : Nat} : (zsN l).contains ((y : Nat) : Int) = l.contains y := by
  rw [Bool.eq_iff_iff, List.contains_iff_mem, List.contains_iff_mem, zsN, List.mem_map]
  constructor
  · rintro ⟨x, hx, e⟩
    rw [← show x = y by omega]; exact hx
  · intro h; exact ⟨y, h, rfl⟩
theorem reached96 (g b S M : Nat) (a : Option Addr) (n c : Nat) (ws : List Wn) (w d : Nat) (C : Nat → Nat) (q : FuncId) (caps : Array Value) (h : Eng.Heap) (hg : DeskB h g b S M a n c) (hr : Row h a (wsV ws)) (hn : n = ws.length) (V : Vb S M ws) (hw : w < ws.length)
    (hof : ∀ k, k < n → ∀ h', Ext h h' → CallsH Tryz.prog q (#[] ++ #[.int .i64 (k : Nat)] ++ caps) h' (fun v h'' => v = .bool (decide (C k = C w) || decide (C k = d)) ∧ h'' = h')) :
    CallsH Tryz.prog 67 #[.pointer (some ⟨g, 0, none⟩), .int .i64 w, .func (.func q) #[] caps] h (fun v h' => Ext h h' ∧ NewI h.size h' 3 v (zsN ((List.range n).filter (MB.cit (shN ws) (moN ws) C n w d n)))) := by
  have hV := V.n
  (refine CallsH_of_exec Tryz.func67 rfl bod67 ?_; simp only [Tryz.ntmps67, Tryz.results67, coreS, stK_some, splice, Value.cells, Value.oneCell', Nat.reduceAdd, Nat.reduceSub, Nat.reduceMul, Nat.reduceLeDiff, Int.reduceEq, Nat.reduceEqDiff, M18Fs67])
  obtain ⟨H2, hH2⟩ : ∃ H2, H2 = updH (((h.push (.cells #[.func (.func q) #[] caps] 69)).push (.cells #[.int .i64 (w : Int)] 3)).push (.cells #[.slice none 0 0] 25)) (h.size + 1 + 1) [.slice (some ⟨h.size + 1, 0, none⟩) 1 1] 25 := ⟨_, rfl⟩
  have g2 : H2[h.size + 1 + 1]? = some (.cells #[.slice (some ⟨h.size + 1, 0, none⟩) 1 1] 25) := by rw [hH2]; exact upd_same (c := [.slice (some ⟨h.size + 1, 0, none⟩) 1 1]) (by simp)
  have u2 : Upd (((h.push (.cells #[.func (.func q) #[] caps] 69)).push (.cells #[.int .i64 (w : Int)] 3)).push (.cells #[.slice none 0 0] 25)) H2 (h.size + 1 + 1) := by rw [hH2]; exact Upd.updH
  have hs2 : H2.size = h.size + 3 := by rw [u2.size]; simp
  have g0 : H2[h.size]? = some (.cells #[.func (.func q) #[] caps] 69) := u2.get (push_old (pn0 (h := h))) (by omega)
  have g1 : H2[h.size + 1]? = some (.cells #[.int .i64 (w : Int)] 3) := u2.get (push_old (pn1 (h := h))) (by omega)
  have x2 : Ext h H2 := u2.ext ((((Ext.refl h).push _).push _).push _) (by omega)
  rw [← hH2]
  clear hH2 u2
  refine WP_loopD [8, 9, 12, 13, 14, 15, 16, 17, 18, 19, 20, 21, 22, 23, 25, 26, 27, 28, 29, 30, 31, 32, 33, 34, 35, 36, 37] (fun e dd h' => ∃ (out : List Nat) (k cap : Nat) (a' : Option Addr), e 8 = .int .i64 k ∧ k ≤ out.length ∧ Ext h h' ∧ h.size + 3 ≤ h'.size ∧ Marks (h.size + 3) h'.size h' dd ∧ h'[h.size]? = some (.cells #[.func (.func q) #[] caps] 69) ∧ h'[h.size + 1 + 1]? = some (.cells #[.slice a' out.length cap] 25) ∧ OwnI (h.size + 1) h' 3 a' out.length cap (zsN out) ∧ MB.Bf (shN ws) (moN ws) C n w d out k 0) (fun e _ => match e 8 with | .int _ q => n - q.toNat | _ => 0) ⟨[w], 0, 1, some ⟨h.size + 1, 0, none⟩, rfl, by omega, x2, by omega, Marks.nil _ _ _, g0, g2, ⟨rfl, .inr ⟨h.size + 1, _, rfl, Nat.le_refl _, g1, Nat.le_refl _, Nat.le_refl _, rfl⟩⟩, MB.Bf.start (by omega)⟩ ?_
  clear g0 g1 g2 x2 hs2
  rintro e dC hC ⟨out, k, cap, a', he, hk, yC, hsC, mC, k0, k2, O, B⟩
  have hLn := B.size
  by_cases hlt : k < out.length
  · have hlt2 : (k : Int) < out.length := by omega
    have kc := (O.ints).cell (j := k) (by rw [zsN_length]; exact hlt)
    have sa := O.ints.isSome (by rw [zsN_length]; omega)
    have exk : (zsN out).getD k 0 = ((out.getD k 0 : Nat) : Int) := by simp [zsN, List.getD_eq_getElem?_getD, List.getElem?_eq_getElem hlt]
    rw [exk] at kc
    simp only [he, k2, kc, hlt2, decide_true, Int.toNat_natCast, coreS, Value.cells, Value.oneCell', Nat.reduceAdd, Nat.reduceSub, Nat.reduceMul, Nat.reduceLeDiff, Int.reduceEq, Nat.reduceEqDiff, M18Fs67]
    refine ⟨by omega, sa, ?_⟩
    obtain ⟨x, hx⟩ : ∃ x, x = out.getD k 0 := ⟨_, rfl⟩
    have hxL : x ∈ out := by rw [hx]; exact MB.getD_mem hlt
    have hxn : x < n := B.lt x hxL
    rw [← hx]
    refine CallsH.mono (near112 g x hC) ?_
    rintro v4 h4 ⟨rfl, hh4⟩
    have xC4 : Ext hC h4 := by rw [hh4]; exact ((Ext.refl hC).push _).push _
    have f1 : h4[hC.size]? = some (.cells #[.pointer (some ⟨g, 0, none⟩)] 44) := by rw [hh4]; exact pn0
    have f2 : h4[hC.size + 1]? = some (.cells #[.int .i64 (x : Int)] 3) := by rw [hh4]; exact pn1
    have x4 : Ext h h4 := yC.trans xC4
    have s4 : h4.size = hC.size + 2 := by rw [hh4]; simp
    have j0 := xC4.get k0
    have j2 := xC4.get k2
    have mk4 := mC.ext xC4
    have O4 := O.ext xC4
    have hab : ∀ p, a' = some p → p.block < hC.size ∨ hC.size + 4 ≤ p.block := fun p hp => .inl (O.lt hp).1
    clear hh4 k0 k2
    have elen : (nrX (nrL ws x n)).length = (nrL ws x n).length := by simp [nrX]
    simp only [coreS, Value.cells, Value.oneCell', Nat.reduceAdd, Nat.reduceSub, Nat.reduceMul, Nat.reduceLeDiff, Int.reduceEq, Nat.reduceEqDiff, M18Fs67]
    refine WP_rangeI (xss := nrX (nrL ws x n)) rfl (near_seq (b1 := hC.size) (b2 := hC.size + 1) (g := g) (b := b) (S := S) (M := M) (a := a) (c := c) hn V (by omega)) (fun r h' => ∃ (out' : List Nat) (cap' : Nat) (a'' : Option Addr) (t : Nat), Ext h h' ∧ h'[hC.size]? = some (.cells #[.pointer (some ⟨g, 0, none⟩)] 44) ∧ h'[hC.size + 1]? = some (.cells #[.int .i64 (x : Int)] 3) ∧ h'[hC.size + 2]? = some (.deferred (some [])) ∧ hC.size + 4 ≤ h'.size ∧ Marks (h.size + 3) hC.size h' dC ∧ h'[h.size]? = some (.cells #[.func (.func q) #[] caps] 69) ∧ h'[h.size + 1 + 1]? = some (.cells #[.slice a'' out'.length cap'] 25) ∧ OwnI (h.size + 1) h' 3 a'' out'.length cap' (zsN out') ∧ MB.Bf (shN ws) (moN ws) C n w d out' k t ∧ t ≤ n ∧ (nrL ws x t).length = r ∧ out'.getD k 0 = x ∧ x ∈ out' ∧ k < out'.length ∧ (∀ p, a'' = some p → p.block < hC.size ∨ hC.size + 4 ≤ p.block)) (fun j h' => False) ?_ ?_ ?_ ?_ ?_ ?_ ?_ ?_
    · intro vs hvs
      simp only [nrX, List.mem_map] at hvs
      obtain ⟨_, _, rfl⟩ := hvs
      rfl
    · rintro r h' ⟨out', cap', a'', t, z0, z1, z2, z3, z4, zM, z5, z6, zO, zB, zt, zr, zx, zm, zk, zA⟩
      exact ⟨hr.ext z0, z0.get hg, z1, z2⟩
    · rintro r h5 h6 ⟨out', cap', a'', t, z0, z1, z2, z3, z4, zM, z5, z6, zO, zB, zt, zr, zx, zm, zk, zA⟩ u
      rw [s4] at u
      exact ⟨out', cap', a'', t, u.ext z0 (by omega), u.get z1 (by omega), u.get z2 (by omega), u.get z3 (by omega), by rw [u.size]; exact z4, zM.upd u (by omega), u.get z5 (by omega), u.get z6 (by omega), zO.keep fun p hp => u.old _ (by have := zA p hp; omega), zB, zt, zr, zx, zm, zk, zA⟩
    · exact fun j h1 h2 H _ => H
    · intro h' x' z1 z2
      rw [s4] at z1 z2
      exact ⟨out, cap, a', 0, x4.trans x', x'.get f1, x'.get f2, z1, by omega, mk4.ext x', x'.get j0, x'.get j2, O4.ext x', B, by omega, rfl, hx.symm, hxL, hlt, hab⟩
    · rintro r h5 vs o hvs ⟨out', cap', a'', t, z0, z1, z2, z3, z4, zM, z5, z6, zO, zB, zt, zr, zx, zm, zk, zA⟩ ho5
      rw [s4] at ho5 ⊢
      obtain ⟨y, hy, rfl⟩ : ∃ y : Nat, (nrL ws x n)[r]? = some y ∧ vs = [.int .i64 (y : Nat)] := by
        rw [nrX, List.getElem?_map] at hvs
        cases hq : (nrL ws x n)[r]? with
        | none => rw [hq] at hvs; cases hvs
        | some y => rw [hq] at hvs; simp at hvs; exact ⟨y, rfl, hvs.symm⟩
      obtain ⟨hyn, hyb, hyr⟩ := nrL_idx hy
      have hty : t ≤ y := by
        apply Classical.byContradiction
        intro hh
        have e1 := congrArg List.length (nrL_yes hyb)
        rw [List.length_append, List.length_singleton] at e1
        have e2 := nrL_mono (ws := ws) (i := x) (show y + 1 ≤ t by omega)
        omega
      have B2 := bf_skip rfl rfl zx zm y t hty (nrL_gap (by rw [zr, hyr])) zB
      have hycl : MB.clash (shN ws) (moN ws) (out'.getD k 0) y = true := by
        rw [zx]; unfold nrB at hyb; simp only [Bool.and_eq_true] at hyb; exact hyb.2
      have hnext : (nrL ws x (y + 1)).length = r + 1 := by rw [nrL_yes hyb, List.length_append, hyr]; rfl
      have hLn' := zB.size
      simp only [asgI_normal, coreS, Value.cells, Value.oneCell', Nat.reduceAdd, Nat.reduceSub, Nat.reduceMul, Nat.reduceLeDiff, Int.reduceEq, Nat.reduceEqDiff, scopeK_normal, scopeK_ret, scopeK_exit, callV_yield, binds_cons, binds_nil, M18Fs67]
      refine ⟨ho5, fun h6 o2 u6 ho2 => ?_⟩
      have qx := u6.ext z0 (by omega)
      have q1 := u6.get z1 (by omega)
      have q2 := u6.get z2 (by omega)
      have q3 := u6.get z3 (by omega)
      have qM := zM.upd u6 (by omega)
      have q5 := u6.get z5 (by omega)
      have q6 := u6.get z6 (by omega)
      have qO := zO.keep (h' := h6) fun p hp => u6.old _ (by have := zA p hp; omega)
      have qs := u6.size
      clear z0 z1 z2 z3 zM z5 z6 zO ho5
      simp only [q5, coreS, Value.cells, Value.oneCell', Nat.reduceAdd, Nat.reduceSub, Nat.reduceMul, Nat.reduceLeDiff, Int.reduceEq, Nat.reduceEqDiff, scopeK_normal, scopeK_ret, scopeK_exit, callV_yield, binds_cons, binds_nil, M18Fs67]
      refine CallsH.mono (hof y hyn h6 qx) ?_
      rintro v7 h7 ⟨rfl, rfl⟩
      have stay : ∀ h9, ((C y = C w ∨ C y = d) → y ∈ out') → Ext h7 h9 → ∃ (out' : List Nat) (cap' : Nat) (a'' : Option Addr) (t : Nat), Ext h h9 ∧ h9[hC.size]? = some (.cells #[.pointer (some ⟨g, 0, none⟩)] 44) ∧ h9[hC.size + 1]? = some (.cells #[.int .i64 (x : Int)] 3) ∧ h9[hC.size + 2]? = some (.deferred (some [])) ∧ hC.size + 4 ≤ h9.size ∧ Marks (h.size + 3) hC.size h9 dC ∧ h9[h.size]? = some (.cells #[.func (.func q) #[] caps] 69) ∧ h9[h.size + 1 + 1]? = some (.cells #[.slice a'' out'.length cap'] 25) ∧ OwnI (h.size + 1) h9 3 a'' out'.length cap' (zsN out') ∧ MB.Bf (shN ws) (moN ws) C n w d out' k t ∧ t ≤ n ∧ (nrL ws x t).length = r + 1 ∧ out'.getD k 0 = x ∧ x ∈ out' ∧ k < out'.length ∧ (∀ p, a'' = some p → p.block < hC.size ∨ hC.size + 4 ≤ p.block) := fun h9 hh x9 =>
        ⟨out', cap', a'', y + 1, qx.trans x9, x9.get q1, x9.get q2, x9.get q3, by have := x9.size; omega, qM.ext x9, x9.get q5, x9.get q6, qO.ext x9, B2.skip fun _ hcol => hh hcol, by omega, hnext, zx, zm, zk, zA⟩
      cases hp : (decide (C y = C w) || decide (C y = d)) with
      | false =>
        simp only [endI_normal, coreS, Value.cells, Value.oneCell', Nat.reduceAdd, Nat.reduceSub, Nat.reduceMul, Nat.reduceLeDiff, Int.reduceEq, Nat.reduceEqDiff, scopeK_normal, scopeK_ret, scopeK_exit, callV_yield, binds_cons, binds_nil, M18Fs67]
        refine ⟨ho2, stay _ (fun hcol => ?_) (Ext.refl _)⟩
        simp at hp
        rcases hcol with h1 | h1
        · exact absurd h1 hp.1
        · exact absurd h1 hp.2
      | true =>
        have hcol : C y = C w ∨ C y = d := by simpa using hp
        simp only [q6, coreS, Value.cells, Value.oneCell', Nat.reduceAdd, Nat.reduceSub, Nat.reduceMul, Nat.reduceLeDiff, Int.reduceEq, Nat.reduceEqDiff, scopeK_normal, scopeK_ret, scopeK_exit, callV_yield, binds_cons, binds_nil, M18Fs67]
        refine CallsH.mono (contains66 a'' _ cap' (zsN out') y _ qO.ints (by omega)) ?_
        rintro v8 h8 ⟨rfl, x8⟩
        rw [zsN_contains]
        cases hct : out'.contains y with
        | true =>
          simp only [Bool.not_true, endI_normal, coreS, Value.cells, Value.oneCell', Nat.reduceAdd, Nat.reduceSub, Nat.reduceMul, Nat.reduceLeDiff, Int.reduceEq, Nat.reduceEqDiff, scopeK_normal, scopeK_ret, scopeK_exit, callV_yield, binds_cons, binds_nil, M18Fs67]
          exact ⟨x8.get ho2, stay _ (fun _ => List.contains_iff_mem.1 hct) x8⟩
        | false =>
          have hno : y ∉ out' := fun hm => by rw [List.contains_iff_mem.2 hm] at hct; cases hct
          have R2 := B2.add zk hyn hycl hcol.symm.symm hno
          have r1 := x8.get q1
          have r2 := x8.get q2
          have r3 := x8.get q3
          have rM := qM.ext x8
          have r5 := x8.get q5
          have r6 := x8.get q6
          have rO := qO.ext x8
          have rx := qx.trans x8
          have ro := x8.get ho2
          have rs := x8.size
          clear q1 q2 q3 qM q5 q6 qO qx stay
          simp only [r6, splice, Bool.not_false, coreS, Value.cells, Value.oneCell', Nat.reduceAdd, Nat.reduceSub, Nat.reduceMul, Nat.reduceLeDiff, Int.reduceEq, Nat.reduceEqDiff, scopeK_normal, scopeK_ret, scopeK_exit, callV_yield, binds_cons, binds_nil, M18Fs67]
          have rO7 := rO.ext ((Ext.refl h8).push (.cells #[.int .i64 (y : Int)] 3))
          refine app25 (m0 := h.size + 1) (len := out'.length) (m := 1) (xs := zsN out') (ys := [(y : Int)]) (by rfl) (by rfl) rO7 (by rw [push_size]; have := rx.size; omega) (intsV_one push_new) (by omega) fun a8 c8 h9 O8 A8 => ?_
          have ezn : zsN out' ++ [(y : Int)] = zsN (out' ++ [y]) := by simp [zsN]
          rw [ezn] at O8
          have t1 := App.oth A8 rO7 (push_old r1) (fun cur hh => by cases hh)
          have t2 : h9[hC.size + 1]? = some (.cells #[.int .i64 (x : Int)] 3) := (A8.old _ (by rw [push_size]; omega) fun p hp => by have := zA p hp; omega).trans (push_old r2)
          have t3 := App.oth A8 rO7 (push_old r3) (fun cur hh => by cases hh)
          have tM := Marks.app A8 rO7 (rM.ext ((Ext.refl h8).push (.cells #[.int .i64 (y : Int)] 3)))
          have t5 := App.oth A8 rO7 (push_old r5) (fun cur hh => by cases hh)
          have t6 := App.oth A8 rO7 (push_old r6) (fun cur hh => by cases hh)
          have tx : Ext h h9 := A8.extN rO7 (rx.push _) (by omega)
          have ts := A8.size
          rw [push_size] at ts
          have tA : ∀ p, a8 = some p → p.block < hC.size ∨ hC.size + 4 ≤ p.block := fun p hp => by
            rcases A8.to p hp with ⟨q0, hq0, hqb⟩ | hge
            · have := zA q0 hq0; omega
            · rw [push_size] at hge; omega
          have hll : (out' ++ [y]).length = out'.length + 1 := by simp
          have to2 : h9[hC.size + 2 + 1]? = some o2 := (A8.old _ (by rw [push_size]; omega) fun p hp => by have := zA p hp; omega).trans (push_old ro)
          simp only [t6, splice, coreS, Value.cells, Value.oneCell', Nat.reduceAdd, Nat.reduceSub, Nat.reduceMul, Nat.reduceLeDiff, Int.reduceEq, Nat.reduceEqDiff, scopeK_normal, scopeK_ret, scopeK_exit, callV_yield, binds_cons, binds_nil, M18Fs67]
          refine stK_abs t6 (by simp) fun h10 g10 u10 => ?_
          simp only [splice] at g10
          have O10 := OwnI.updO O8 u10 t6 (fun cur hh => by cases hh)
          rw [← hll] at O10
          simp only [splice, endI_normal, coreS, Value.cells, Value.oneCell', Nat.reduceAdd, Nat.reduceSub, Nat.reduceMul, Nat.reduceLeDiff, Int.reduceEq, Nat.reduceEqDiff, scopeK_normal, scopeK_ret, scopeK_exit, callV_yield, binds_cons, binds_nil, M18Fs67]
          refine ⟨u10.get to2 (by omega), out' ++ [y], c8, a8, y + 1, u10.ext tx (by omega), u10.get t1 (by omega), u10.get t2 (by omega), u10.get t3 (by omega), by rw [u10.size]; omega, tM.upd u10 (by omega), u10.get t5 (by omega), ?_, O10, R2, by omega, hnext, ?_, List.mem_append_left _ zm, by omega, tA⟩
          · rw [g10, hll]; rfl
          · rw [MB.getD_app zk]; exact zx
    · rintro h5 ⟨out', cap', a'', t, z0, z1, z2, z3, z4, zM, z5, z6, zO, zB, zt, zr, zx, zm, zk, zA⟩
      rw [s4]
      have B2 := bf_skip rfl rfl zx zm n t zt (nrL_gap (by rw [zr, elen])) zB
      have hLn' := zB.size
      simp only [he, coreS, Value.cells, Value.oneCell', Nat.reduceAdd, Nat.reduceSub, Nat.reduceMul, Nat.reduceLeDiff, Int.reduceEq, Nat.reduceEqDiff, scopeK_normal, scopeK_ret, scopeK_exit, callV_yield, binds_cons, binds_nil, M18Fs67]
      refine ⟨by rw [inK_i64]; omega, roundD_mk (by kernel_rfl) ⟨out', k + 1, cap', a'', rfl, by omega, z0, by omega, zM.cons z3 (by omega) (by omega) (by omega), z5, z6, zO, B2.next⟩ ?_⟩
      show n - ((k : Int) + 1).toNat < n - (k : Int).toNat
      omega
    · exact fun j h' H => H.elim
  · have hlt2 : ¬ (k : Int) < out.length := by omega
    obtain rfl : k = out.length := by omega
    simp only [he, k2, hlt2, decide_false, coreS, Value.cells, Value.oneCell', Nat.reduceAdd, Nat.reduceSub, Nat.reduceMul, Nat.reduceLeDiff, Int.reduceEq, Nat.reduceEqDiff, M18Fs67]
    refine CallsH.mono (sort73_own2 (h.size + 1) _ cap a' (zsN out) hC O (by omega)) ?_
    rintro v h9 ⟨rfl, ⟨q1, q2⟩, ys, hp, hs, O9⟩
    have hne : ∀ i o, hC[i]? = some o → (∀ cur, o ≠ Obj.cells cur 3 (0, 0)) → h9[i]? = some o := fun i o hi ho => (q2 i (lt_of_get hi) fun p hp hpb => by
      rcases O.ok with ⟨h1, _⟩ | ⟨g', cur, h1, h2, h3, _⟩
      · rw [h1] at hp; cases hp
      · rw [h1] at hp; cases hp
        subst hpb
        rw [hi] at h3
        exact ho cur (Option.some.inj h3)).trans hi
    have k2' := hne _ _ k2 (fun cur hh => by cases hh)
    have mC' : Marks (h.size + 3) hC.size h9 dC := by
      obtain ⟨rs, e1, e2, e3⟩ := mC
      exact ⟨rs, e1, e2, fun r hr => ⟨(e3 r hr).1, (e3 r hr).2.1, hne _ _ (e3 r hr).2.2 (fun cur hh => by cases hh)⟩⟩
    simp only [k2', coreS, Value.cells, Value.oneCell', Nat.reduceAdd, Nat.reduceSub, Nat.reduceMul, Nat.reduceLeDiff, Int.reduceEq, Nat.reduceEqDiff, M18Fs67]
    refine fin_marks2 mC' fun h10 hs10 hk10 hn10 => ?_
    have h0 : ∀ x ∈ zsN out, 0 ≤ x := fun x hx => by
      obtain ⟨y, _, rfl⟩ := List.mem_map.1 hx
      omega
    have hy0 : ∀ x ∈ ys, 0 ≤ x := fun x hx => h0 x (hp.mem_iff.1 hx)
    have hys := zsN_natL hy0
    have hpn : (natL ys).Perm out := by
      have := hp.map Int.toNat
      have e : (zsN out).map Int.toNat = out := natL_zsN out
      rw [e] at this
      exact this
    have hsn : (natL ys).Pairwise (· ≤ ·) := by
      unfold natL
      rw [List.pairwise_map]
      exact hs.imp fun {a b} h => by omega
    have hfin := B.sorted (by omega) hsn hpn
    rw [← hfin, hys]
    simp only [coreS, Value.cells, Value.oneCell', Nat.reduceAdd, Nat.reduceSub, Nat.reduceMul, Nat.reduceLeDiff, Int.reduceEq, Nat.reduceEqDiff, M18Fs67]
    have hyl : ys.length = out.length := by rw [hp.length_eq, zsN_length]
    refine ⟨⟨by have := yC.size; omega, fun i hi => ?_⟩, a', cap, by rw [hyl], ?_⟩
    · rw [hk10 i (by omega), q2 i (by omega) fun p hp => by have := (O.lt hp).2; omega]
      exact yC.old i hi
    · rw [hyl]
      refine OwnI.mono (OwnI.keep O9 fun p hp => hn10 _ ?_) (by omega)
      rcases O9.ok with ⟨h1, _⟩ | ⟨g', cur, h1, h2, h3, _⟩
      · rw [h1] at hp; cases hp
      · rw [h1] at hp; cases hp
        intro hh
        have h3' : h9[g']? = some (Obj.cells cur 3 (0, 0)) := h3
        rw [show h9[g']? = some (Obj.deferred (some [])) from hh] at h3'
        cases h3'
end Go.Proofs.YtmgkeeefbfefgaaGreat
end
