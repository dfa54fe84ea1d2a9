/- Walks: fill, Days. -/
import Derived.Test.YtmgkeeefbfefgaaM13
namespace Go.Proofs.Ytmgkeeefbfefgaa
open Go Go.Proofs Go.Eng Go.Run Tab
set_option maxRecDepth 100000
set_option linter.unusedSimpArgs false
set_option linter.unusedVariables false
set_option linter.defProp false
set_option maxHeartbeats 1000000
set_option linter.defProp false
def M14Fs48 := (And.intro (And.intro (And.intro @agg22 (And.intro @agg24 @by3)) (And.intro @fo24_2 (And.intro @inf22 @inf24))) (And.intro (And.intro @inf3 (And.intro @sz22 @sz24)) (And.intro (And.intro @sz3 @zero3) (And.intro @Try.underlying22 @Try.underlying25))))
def M14Fs83 := (And.intro (And.intro (And.intro @agg101 (And.intro @agg3 @agg97)) (And.intro (And.intro @by3 @fo99_1) (And.intro @inf101 @inf3))) (And.intro (And.intro (And.intro @inf97 @sz101) (And.intro @sz3 @sz97)) (And.intro (And.intro @zero101 @Try.underlying25) (And.intro @Try.underlying97 @Try.underlying102))))
/-- The days that wants have, one after another. -/
def onD (bg : List Nat) : List (Nat × Nat) := onL (fun k => bg.getD k 0) bg.length
theorem onD_snoc (bg : List Nat) (d : Nat) : onD (bg ++ [d]) = onD bg ++ [(bg.length, d)] := by
  unfold onD
  rw [List.length_append, List.length_singleton, onL_succ]
  congr 1
  · unfold onL
    refine List.map_congr_left fun k hk => ?_
    have hk := List.mem_range.1 hk
    simp only [List.getD_eq_getElem?_getD, List.getElem?_append_left hk]
  · simp [List.getD_eq_getElem?_getD]
theorem fits_fit {sh mo : Nat → Nat} {bg : List Nat} {d : Nat} : fits sh mo (onD bg) bg.length d = MB.fit sh mo bg d := by
  rw [Bool.eq_iff_iff, MB.fit_iff]
  unfold onD
  rw [fits_on]
theorem Hold.del {sh mo : Nat → Nat} {es : List (Sk × Value × Nat)} {L : List (Nat × Nat)} {i d : Nat} (H : Hold sh mo es (L ++ [(i, d)])) (hf : fits sh mo L i d = true) : Hold sh mo (delA (1, mo i, d) (delA (0, sh i, d) es)) L := by
  have hf0 : held sh mo L (0, sh i, d) = false := by unfold fits at hf; simp only [Bool.and_eq_true, Bool.not_eq_true'] at hf; exact hf.1
  have hf1 : held sh mo L (1, mo i, d) = false := by unfold fits at hf; simp only [Bool.and_eq_true, Bool.not_eq_true'] at hf; exact hf.2
  have gone : ∀ (k : Sk) (es : List (Sk × Value × Nat)), (es.map (·.1)).Nodup → getA k (delA k es) = none := by
    intro k es hn
    induction es with
    | nil => rfl
    | cons x es ih =>
      rw [List.map_cons, List.nodup_cons] at hn
      by_cases hx : k = x.1
      · simp only [delA, hx, if_true]
        cases hg : getA x.1 es with
        | none => rfl
        | some v =>
          obtain ⟨c, hc⟩ := mem_getA hg
          exact absurd (List.mem_map.2 ⟨_, hc, rfl⟩) hn.1
      · simp only [delA, hx, if_false, getA]
        exact ih hn.2
  refine ⟨del_nodup (del_nodup H.nd), fun k => ?_⟩
  by_cases h1 : k = (1, mo i, d)
  · subst h1
    rw [gone _ _ (del_nodup H.nd), hf1]; rfl
  rw [getA_del h1]
  by_cases h0 : k = (0, sh i, d)
  · subst h0
    rw [gone _ _ H.nd, hf0]; rfl
  rw [getA_del h0, H.get]
  unfold held
  rw [List.any_append]
  simp [h0, h1]
/-- Changes at two blocks. -/
structure Chg2 (h h' : Eng.Heap) (b c : Nat) : Prop where
  size : h.size ≤ h'.size
  old : ∀ i, i < h.size → i ≠ b → i ≠ c → h'[i]? = h[i]?
theorem Chg2.refl (h : Eng.Heap) (b c : Nat) : Chg2 h h b c := ⟨Nat.le_refl _, fun _ _ _ _ => rfl⟩
theorem Chg2.of_chg {h h' : Eng.Heap} {b c : Nat} (x : Chg h h' b) : Chg2 h h' b c := ⟨x.size, fun i h1 h2 _ => x.old i h1 h2⟩
theorem Chg2.of_ext {h h' : Eng.Heap} {b c : Nat} (x : Ext h h') : Chg2 h h' b c := ⟨x.size, fun i h1 _ _ => x.old i h1⟩
theorem Chg2.trans {h h' h'' : Eng.Heap} {b c : Nat} (x : Chg2 h h' b c) (y : Chg2 h' h'' b c) : Chg2 h h'' b c := ⟨Nat.le_trans x.size y.size, fun i h1 h2 h3 => (y.old i (Nat.lt_of_lt_of_le h1 x.size) h2 h3).trans (x.old i h1 h2 h3)⟩
theorem Chg2.updr {h h' h'' : Eng.Heap} {b c : Nat} (x : Chg2 h h' b c) (u : Upd h' h'' c) : Chg2 h h'' b c := x.trans ⟨by rw [u.size]; exact Nat.le_refl _, fun i _ _ h3 => u.old i h3⟩
theorem Chg2.updl {h h' h'' : Eng.Heap} {b c : Nat} (x : Chg2 h h' b c) (u : Upd h' h'' b) : Chg2 h h'' b c := x.trans ⟨by rw [u.size]; exact Nat.le_refl _, fun i _ h2 _ => u.old i h2⟩
theorem Chg2.get {h h' : Eng.Heap} {b c i : Nat} {o : Obj} (x : Chg2 h h' b c) (hi : h[i]? = some o) (h1 : i ≠ b) (h2 : i ≠ c) : h'[i]? = some o := (x.old i (lt_of_get hi) h1 h2).trans hi
theorem Chg2.ext {h0 h h' : Eng.Heap} {b c : Nat} (y : Ext h0 h) (x : Chg2 h h' b c) (hb : h0.size ≤ b) (hc : h0.size ≤ c) : Ext h0 h' := ⟨Nat.le_trans y.size x.size, fun i hi => (x.old i (Nat.lt_of_lt_of_le hi y.size) (by omega) (by omega)).trans (y.old i hi)⟩
def gs (sh mo : Nat → Nat) (D k : Nat) (bg : List Nat) (d : Nat) : Option (List Nat) := if MB.fit sh mo bg d then MB.go sh mo D k (bg ++ [d]) else none
theorem go_none {sh mo : Nat → Nat} {D k : Nat} {bg : List Nat} (h : ∀ d, d < D → gs sh mo D k bg d = none) : MB.go sh mo D (k + 1) bg = none := by
  show (List.range D).findSome? (gs sh mo D k bg) = none
  rw [List.findSome?_eq_none_iff]
  exact fun x hx => h x (List.mem_range.1 hx)
theorem go_found {sh mo : Nat → Nat} {D k d : Nat} {bg l : List Nat} (hd : d < D) (h : ∀ x, x < d → gs sh mo D k bg x = none) (he : gs sh mo D k bg d = some l) : MB.go sh mo D (k + 1) bg = some l := by
  show (List.range D).findSome? (gs sh mo D k bg) = some l
  have e : List.range D = List.range d ++ d :: (List.range' (d + 1) (D - d - 1)) := by
    rw [List.range_eq_range', List.range_eq_range', show D = d + (1 + (D - d - 1)) by omega, ← List.range'_append_1, ← List.range'_append_1]
    simp
  rw [e, List.findSome?_append, List.findSome?_cons, he, (List.findSome?_eq_none_iff).2 fun x hx => h x (List.mem_range.1 hx)]
  rfl
theorem ints_put {zs : List Int} {i : Nat} {d : Int} (hi : i < zs.length) : splice (Eng.ints zs) i [.int .i64 d] = Eng.ints (zs.set i d) := by
  rw [splice_one _ _ _ (by rw [Eng.ints_length]; exact hi)]
  simp [Eng.ints, List.map_set]
theorem take_put {zs : List Int} {bg : List Nat} {d : Nat} (h : zs.take bg.length = zsN bg) (hi : bg.length < zs.length) : (zs.set bg.length (d : Int)).take (bg ++ [d]).length = zsN (bg ++ [d]) := by
  rw [List.length_append, List.length_singleton, List.take_add_one, List.take_set_of_le (Nat.le_refl _), h, List.getElem?_set_self hi]
  simp [zsN]
/-- What fill does. -/
def FillP (ws : List Wn) (D k q mb n : Nat) (bg : List Nat) (h : Eng.Heap) (v : Value) (h' : Eng.Heap) : Prop := Chg2 h h' mb q ∧
  ((∃ l, MB.go (shN ws) (moN ws) D k bg = some l ∧ v = .bool true ∧ h'[q]? = some (.cells (Eng.ints (zsN l)).toArray 3)) ∨
   (MB.go (shN ws) (moN ws) D k bg = none ∧ v = .bool false ∧ ∃ es c zs, MapV kvS h' mb es c ∧ Hold (shN ws) (moN ws) es (onD bg) ∧ h'[q]? = some (.cells (Eng.ints zs).toArray 3) ∧ zs.length = n ∧ zs.take bg.length = zsN bg))
theorem zsN_length (l : List Nat) : (zsN l).length = l.length := by simp [zsN]
theorem fill83 (g mb S M q : Nat) (a : Option Addr) (n c D : Nat) (ws : List Wn) (h0 : Eng.Heap) (hr : Row h0 a (wsV ws)) (hn : n = ws.length) (V : Vb S M ws) (hD : D ≤ 14) (hq : h0.size ≤ q) (hmb : h0.size ≤ mb) (hgq : g ≠ q) (hmq : mb ≠ q) :
    ∀ (k : Nat) (bg : List Nat) (zs : List Int) (es : List (Sk × Value × Nat)) (c0 : Nat) (h : Eng.Heap), bg.length + k = n → Ext h0 h → DeskB h g mb S M a n c → MapV kvS h mb es c0 → Hold (shN ws) (moN ws) es (onD bg) → h[q]? = some (.cells (Eng.ints zs).toArray 3) → zs.length = n → zs.take bg.length = zsN bg →
    CallsH Try.prog 83 #[.pointer (some ⟨g, 0, none⟩), .slice (some ⟨q, 0, none⟩) n n, .int .i64 bg.length, .int .i64 D] h (FillP ws D k q mb n bg h)
  | 0, bg, zs, es, c0, h, hk, x0, hg, Mp, H, hz, hzl, hzt => by
    have hbn : bg.length = n := by omega
    (refine CallsH_of_exec Try.func83 rfl bod83 ?_; simp only [Try.ntmps83, Try.results83, coreS, stK_some, splice, Value.cells, Value.oneCell', Nat.reduceAdd, Nat.reduceSub, Nat.reduceMul, Nat.reduceLeDiff, Int.reduceEq, Nat.reduceEqDiff, M14Fs83])
    refine exec_scope ?_
    have e1 : ((bg.length : Nat) : Int) = ((n : Nat) : Int) := by omega
    simp only [e1, decide_true, coreS, Value.cells, Value.oneCell', Nat.reduceAdd, Nat.reduceSub, Nat.reduceMul, Nat.reduceLeDiff, Int.reduceEq, Nat.reduceEqDiff, scopeK_normal, scopeK_ret, scopeK_exit, callV_yield, binds_cons, binds_nil, M14Fs83]
    rw [hbn, List.take_of_length_le (by omega)] at hzt
    rw [hzt] at hz
    exact ⟨Chg2.refl _ _ _, .inl ⟨bg, rfl, rfl, hz⟩⟩
  | k + 1, bg, zs, es, c0, h, hk, x0, hg, Mp, H, hz, hzl, hzt => by
    have hbn : bg.length < ws.length := by omega
    have hV := V.n
    have hgm : g ≠ mb := fun e => by have h1 := Mp.obj; unfold DeskB at hg; rw [e, h1] at hg; cases hg
    (refine CallsH_of_exec Try.func83 rfl bod83 ?_; simp only [Try.ntmps83, Try.results83, coreS, stK_some, splice, Value.cells, Value.oneCell', Nat.reduceAdd, Nat.reduceSub, Nat.reduceMul, Nat.reduceLeDiff, Int.reduceEq, Nat.reduceEqDiff, M14Fs83])
    refine exec_scope ?_
    have e1 : ¬ ((bg.length : Nat) : Int) = ((n : Nat) : Int) := by omega
    simp only [e1, decide_false, coreS, Value.cells, Value.oneCell', Nat.reduceAdd, Nat.reduceSub, Nat.reduceMul, Nat.reduceLeDiff, Int.reduceEq, Nat.reduceEqDiff, scopeK_normal, scopeK_ret, scopeK_exit, callV_yield, binds_cons, binds_nil, M14Fs83]
    refine WP_loopI [8, 9, 11, 17, 18, 19, 20, 21, 22, 23, 24, 25, 26, 27, 28, 29, 30, 31, 32, 33, 34, 35, 36, 37, 38, 39, 40, 41, 42, 43, 44, 45, 46, 47, 48] (fun e h' => Chg2 h h' mb q ∧ ∃ d : Nat, d ≤ D ∧ e 17 = .int .i64 d ∧ (∀ x, x < d → gs (shN ws) (moN ws) D k bg x = none) ∧ ∃ es c zs, MapV kvS h' mb es c ∧ Hold (shN ws) (moN ws) es (onD bg) ∧ h'[q]? = some (.cells (Eng.ints zs).toArray 3) ∧ zs.length = n ∧ zs.take bg.length = zsN bg) (fun e _ => match e 17 with | .int _ q => D - q.toNat | _ => 0) ⟨Chg2.refl _ _ _, 0, by omega, rfl, fun x hx => by omega, es, c0, zs, Mp, H, hz, hzl, hzt⟩ ?_
    rintro e h1 ⟨ch, d, hd, he, hno, es1, c1, zs1, Mp1, H1, hz1, hzl1, hzt1⟩
    have x1 : Ext h0 h1 := Chg2.ext x0 ch hmb hq
    have hg1 : DeskB h1 g mb S M a n c := ch.get hg hgm hgq
    by_cases hdD : d < D
    · have hlt : (d : Int) < (D : Int) := by omega
      simp only [he, hlt, decide_true, coreS, Value.cells, Value.oneCell', Nat.reduceAdd, Nat.reduceSub, Nat.reduceMul, Nat.reduceLeDiff, Int.reduceEq, Nat.reduceEqDiff, scopeK_normal, scopeK_ret, scopeK_exit, callV_yield, binds_cons, binds_nil, M14Fs83]
      refine CallsH.mono (hang53 g mb S M a n c ws bg.length d es1 c1 (onD bg) h1 hg1 (hr.ext x1) hn V hbn Mp1 H1) ?_
      rintro v h2 ⟨rfl, ch2, es2, c2, Mp2, H2⟩
      rw [fits_fit] at H2 ⊢
      cases hf : MB.fit (shN ws) (moN ws) bg d with
      | false =>
        rw [hf] at H2
        have hz2 := ch2.get hz1 (fun e => hmq e.symm)
        simp only [he, Bool.not_false, coreS, Value.cells, Value.oneCell', Nat.reduceAdd, Nat.reduceSub, Nat.reduceMul, Nat.reduceLeDiff, Int.reduceEq, Nat.reduceEqDiff, scopeK_normal, scopeK_ret, scopeK_exit, callV_yield, binds_cons, binds_nil, M14Fs83]
        refine ⟨by rw [inK_i64]; omega, roundK_mk (by kernel_rfl) ⟨ch.trans (.of_chg ch2), d + 1, by omega, rfl, fun x hx => ?_, es2, c2, zs1, Mp2, by simpa using H2, hz2, hzl1, hzt1⟩ ?_⟩
        · by_cases e : x = d
          · subst e; unfold gs; rw [hf]; rfl
          · exact hno x (by omega)
        · show D - ((d : Int) + 1).toNat < D - (d : Int).toNat
          omega
      | true =>
        rw [hf, if_pos rfl, ← onD_snoc] at H2
        have hz2 := ch2.get hz1 (fun e => hmq e.symm)
        have hg2 : DeskB h2 g mb S M a n c := ch2.get hg1 hgm
        simp only [he, hz2, Bool.not_true, Int.toNat_natCast, coreS, Value.cells, Value.oneCell', Nat.reduceAdd, Nat.reduceSub, Nat.reduceMul, Nat.reduceLeDiff, Int.reduceEq, Nat.reduceEqDiff, scopeK_normal, scopeK_ret, scopeK_exit, callV_yield, binds_cons, binds_nil, M14Fs83]
        refine ⟨⟨by omega, by omega⟩, rfl, ?_⟩
        refine stK_abs hz2 (by simp [Eng.ints_length]; omega) fun h3 g3 u3 => ?_
        rw [ints_put (by omega)] at g3
        have ch3 : Chg2 h h3 mb q := (ch.trans (.of_chg ch2)).updr u3
        have x3 : Ext h0 h3 := Chg2.ext x0 ch3 hmb hq
        have hg3 : DeskB h3 g mb S M a n c := u3.get hg2 hgq
        have Mp3 : MapV kvS h3 mb es2 c2 := Mp2.keep (u3.old _ hmq)
        have el : ((bg.length : Nat) : Int) + 1 = ((bg ++ [d]).length : Nat) := by simp
        simp only [coreS, Value.cells, Value.oneCell', Nat.reduceAdd, Nat.reduceSub, Nat.reduceMul, Nat.reduceLeDiff, Int.reduceEq, Nat.reduceEqDiff, scopeK_normal, scopeK_ret, scopeK_exit, callV_yield, binds_cons, binds_nil, M14Fs83]
        refine ⟨by rw [inK_i64]; omega, ?_⟩
        rw [el]
        refine CallsH.mono (fill83 g mb S M q a n c D ws h0 hr hn V hD hq hmb hgq hmq k (bg ++ [d]) _ es2 c2 h3 (by simp; omega) x3 hg3 Mp3 H2 g3 (by simp [hzl1]) (take_put hzt1 (by omega))) ?_
        rintro v h4 ⟨ch4, ⟨l, hgo, rfl, hz4⟩ | ⟨hgo, rfl, es4, c4, zs4, Mp4, H4, hz4, hzl4, hzt4⟩⟩
        · simp only [coreS, Value.cells, Value.oneCell', Nat.reduceAdd, Nat.reduceSub, Nat.reduceMul, Nat.reduceLeDiff, Int.reduceEq, Nat.reduceEqDiff, scopeK_normal, scopeK_ret, scopeK_exit, callV_yield, binds_cons, binds_nil, M14Fs83]
          refine ⟨ch3.trans ch4, .inl ⟨l, ?_, rfl, hz4⟩⟩
          exact go_found hdD hno (by unfold gs; rw [hf, if_pos rfl]; exact hgo)
        · have y4 := ch3.trans ch4
          have x4 : Ext h0 h4 := Chg2.ext x0 y4 hmb hq
          have hg4 : DeskB h4 g mb S M a n c := y4.get hg hgm hgq
          have hs := (V.s hbn).1
          have hm := (V.m hbn).1
          simp only [he, coreS, Value.cells, Value.oneCell', Nat.reduceAdd, Nat.reduceSub, Nat.reduceMul, Nat.reduceLeDiff, Int.reduceEq, Nat.reduceEqDiff, scopeK_normal, scopeK_ret, scopeK_exit, callV_yield, binds_cons, binds_nil, M14Fs83]
          refine CallsH.mono (spots85 g mb S M a n c ws bg.length d h4 hg4 (hr.ext x4) hn hbn) ?_
          rintro v h5 ⟨rfl, x5⟩
          rw [hs, hm]
          have y5 := y4.trans (.of_ext x5)
          have Mp5 := Mp4.ext x5
          have hg5 : h5[g]? = some (.cells #[.int .i64 S, .int .i64 M, .slice a n c, .map (some mb)] 99) := x5.get hg4
          have hz5 := x5.get hz4
          simp only [coreS, Value.cells, Value.oneCell', Nat.reduceAdd, Nat.reduceSub, Nat.reduceMul, Nat.reduceLeDiff, Int.reduceEq, Nat.reduceEqDiff, scopeK_normal, scopeK_ret, scopeK_exit, callV_yield, binds_cons, binds_nil, M14Fs83]
          refine WP_loopI [11, 39, 40, 41, 42, 43, 44, 45, 46, 47] (fun e h' => Chg2 h h' mb q ∧ h'[g]? = some (.cells #[.int .i64 S, .int .i64 M, .slice a n c, .map (some mb)] 99) ∧ h'[q]? = some (.cells (Eng.ints zs4).toArray 3) ∧ ((e 39 = .int .i64 0 ∧ MapV kvS h' mb es4 c4) ∨ (e 39 = .int .i64 1 ∧ MapV kvS h' mb (delA (0, shN ws bg.length, d) es4) c4) ∨ (e 39 = .int .i64 2 ∧ MapV kvS h' mb (delA (1, moN ws bg.length, d) (delA (0, shN ws bg.length, d) es4)) c4))) (fun e _ => match e 39 with | .int _ q => 2 - q.toNat | _ => 0) ⟨y5, hg5, hz5, .inl ⟨rfl, Mp5⟩⟩ ?_
          rintro e3 h6 ⟨y6, hg6, hz6, ⟨he6, M6⟩ | ⟨he6, M6⟩ | ⟨he6, M6⟩⟩
          · simp only [he6, idsW_arr, show ((0 : Int) < 2) by omega, decide_true, coreS, Value.cells, Value.oneCell', Nat.reduceAdd, Nat.reduceSub, Nat.reduceMul, Nat.reduceLeDiff, Int.reduceEq, Nat.reduceEqDiff, scopeK_normal, scopeK_ret, scopeK_exit, callV_yield, binds_cons, binds_nil, M14Fs83]
            refine index_arrT (j := 0) Try.underlying102 agg101 inf101 sz101 rfl rfl (by omega) ?_
            simp only [List.drop, List.take, stK_some, splice, coreS, stK_some, splice, Value.cells, Value.oneCell', Nat.reduceAdd, Nat.reduceSub, Nat.reduceMul, Nat.reduceLeDiff, Int.reduceEq, Nat.reduceEqDiff, M14Fs83]
            have hgl := lt_of_get hg6
            have hgn : ¬ (g = h6.size) := by omega
            refine WP_draw (by kernel_rfl) sta_eq [(0, 0), (1, 0), (2, 0), (3, 0), (4, 0), (5, 1)] (by kernel_rfl) rfl (by kernel_rfl) ?_
            simp only [hg6, hgn, if_false, hvK_eq, coreS, Value.cells, Value.oneCell', Nat.reduceAdd, Nat.reduceSub, Nat.reduceMul, Nat.reduceLeDiff, Int.reduceEq, Nat.reduceEqDiff, drawS, M14Fs83]
            refine map_delT Try.underlying97 keysS (M6.ext ((Ext.refl h6).push _)) (a := (0, shN ws bg.length, d)) rfl rfl fun h7 M7 u7 => ?_
            simp only [hvK_eq, coreS, Value.cells, Value.oneCell', Nat.reduceAdd, Nat.reduceSub, Nat.reduceMul, Nat.reduceLeDiff, Int.reduceEq, Nat.reduceEqDiff, drawS, M14Fs83]
            refine ⟨by rw [inK_i64]; omega, roundK_mk (by kernel_rfl) ⟨(y6.trans (.of_ext ((Ext.refl h6).push _))).updl u7, u7.get (push_old hg6) hgm, u7.get (push_old hz6) (fun e => hmq e.symm), .inr (.inl ⟨rfl, M7⟩)⟩ ?_⟩
            show 2 - (0 + 1 : Int).toNat < 2 - (0 : Int).toNat
            omega
          · simp only [he6, idsW_arr, show ((1 : Int) < 2) by omega, decide_true, coreS, Value.cells, Value.oneCell', Nat.reduceAdd, Nat.reduceSub, Nat.reduceMul, Nat.reduceLeDiff, Int.reduceEq, Nat.reduceEqDiff, scopeK_normal, scopeK_ret, scopeK_exit, callV_yield, binds_cons, binds_nil, M14Fs83]
            refine index_arrT (j := 1) Try.underlying102 agg101 inf101 sz101 rfl rfl (by omega) ?_
            simp only [List.drop, List.take, stK_some, splice, coreS, stK_some, splice, Value.cells, Value.oneCell', Nat.reduceAdd, Nat.reduceSub, Nat.reduceMul, Nat.reduceLeDiff, Int.reduceEq, Nat.reduceEqDiff, M14Fs83]
            have hgl := lt_of_get hg6
            have hgn : ¬ (g = h6.size) := by omega
            refine WP_draw (by kernel_rfl) sta_eq [(0, 0), (1, 0), (2, 0), (3, 0), (4, 0), (5, 1)] (by kernel_rfl) rfl (by kernel_rfl) ?_
            simp only [hg6, hgn, if_false, hvK_eq, coreS, Value.cells, Value.oneCell', Nat.reduceAdd, Nat.reduceSub, Nat.reduceMul, Nat.reduceLeDiff, Int.reduceEq, Nat.reduceEqDiff, drawS, M14Fs83]
            refine map_delT Try.underlying97 keysS (M6.ext ((Ext.refl h6).push _)) (a := (1, moN ws bg.length, d)) rfl rfl fun h7 M7 u7 => ?_
            simp only [hvK_eq, coreS, Value.cells, Value.oneCell', Nat.reduceAdd, Nat.reduceSub, Nat.reduceMul, Nat.reduceLeDiff, Int.reduceEq, Nat.reduceEqDiff, drawS, M14Fs83]
            refine ⟨by rw [inK_i64]; omega, roundK_mk (by kernel_rfl) ⟨(y6.trans (.of_ext ((Ext.refl h6).push _))).updl u7, u7.get (push_old hg6) hgm, u7.get (push_old hz6) (fun e => hmq e.symm), .inr (.inr ⟨rfl, M7⟩)⟩ ?_⟩
            show 2 - (1 + 1 : Int).toNat < 2 - (1 : Int).toNat
            omega
          · simp only [he, he6, show ¬ ((2 : Int) < 2) by omega, decide_false, coreS, Value.cells, Value.oneCell', Nat.reduceAdd, Nat.reduceSub, Nat.reduceMul, Nat.reduceLeDiff, Int.reduceEq, Nat.reduceEqDiff, scopeK_normal, scopeK_ret, scopeK_exit, callV_yield, binds_cons, binds_nil, M14Fs83]
            rw [onD_snoc] at H4
            have H5 := H4.del (by rw [fits_fit]; exact hf)
            have hzt5 : zs4.take bg.length = zsN bg := by
              have := congrArg (List.take bg.length) hzt4
              rw [List.take_take, Nat.min_eq_left (by simp)] at this
              rw [this]
              simp [zsN]
            refine ⟨by rw [inK_i64]; omega, roundK_mk (by kernel_rfl) ⟨y6, d + 1, by omega, rfl, fun x hx => ?_, _, _, zs4, M6, H5, hz6, hzl4, hzt5⟩ ?_⟩
            · by_cases e : x = d
              · subst e; unfold gs; rw [hf, if_pos rfl]; exact hgo
              · exact hno x (by omega)
            · show D - ((d : Int) + 1).toNat < D - (d : Int).toNat
              omega
    · obtain rfl : d = D := by omega
      have hlt : ¬ ((d : Int) < (d : Int)) := by omega
      simp only [he, hlt, decide_false, coreS, Value.cells, Value.oneCell', Nat.reduceAdd, Nat.reduceSub, Nat.reduceMul, Nat.reduceLeDiff, Int.reduceEq, Nat.reduceEqDiff, scopeK_normal, scopeK_ret, scopeK_exit, callV_yield, binds_cons, binds_nil, M14Fs83]
      exact ⟨ch, .inr ⟨go_none hno, rfl, es1, c1, zs1, Mp1, H1, hz1, hzl1, hzt1⟩⟩
/-- The first days of all. -/
noncomputable def dysF (ws : List Wn) : List Nat := (MB.go (shN ws) (moN ws) (gld ws) ws.length []).getD []
theorem dysF_ok {S M : Nat} {ws : List Wn} (V : Vb S M ws) : MB.go (shN ws) (moN ws) (gld ws) ws.length [] = some (dysF ws) ∧ (dysF ws).length = ws.length ∧ MB.rightL (shN ws) (moN ws) (dysF ws) ∧ (∀ x, x ∈ dysF ws → x < gld ws) ∧ MB.dif (dysF ws) = gld ws := by
  obtain ⟨l, h1, h2⟩ := MB.days_first (gld_great V)
  have e : dysF ws = l := by unfold dysF; rw [h1]; rfl
  rw [e]
  exact ⟨h1, h2⟩
/-- What Days returns. -/
structure DaysP (S M : Int) (ws : List Wn) (h0 : Nat) (h' : Eng.Heap) (v : Value) : Prop where
  ok : chk S M ws = 0 → ∃ q, v = .tuple #[.slice (some ⟨q, 0, none⟩) ws.length ws.length, .int .i64 0] ∧ h0 ≤ q ∧ h'[q]? = some (.cells (Eng.ints (zsN (dysF ws))).toArray 3)
  no : chk S M ws ≠ 0 → v = .tuple #[.slice none 0 0, .int .i64 (chk S M ws)]
theorem days48 (S M : Int) (a : Option Addr) (n c : Nat) (ws : List Wn) (h : Eng.Heap) (hr : Row h a (wsV ws)) (hn : n = ws.length) (hl : n ≤ 1000000) :
    CallsH Try.prog 48 #[.agg #[.int .i64 S, .int .i64 M, .slice a n c]] h (fun v h' => DaysP S M ws h.size h' v ∧ Ext h h') := by
  (refine CallsH_of_exec Try.func48 rfl bod48 ?_; simp only [Try.ntmps48, Try.results48, coreS, stK_some, splice, Value.cells, Value.oneCell', Nat.reduceAdd, Nat.reduceSub, Nat.reduceMul, Nat.reduceLeDiff, Int.reduceEq, Nat.reduceEqDiff, M14Fs48])
  have x0 : Ext h (h.push (.cells #[.int .i64 S, .int .i64 M, .slice a n c] 24)) := (Ext.refl h).push _
  refine CallsH.mono (open49 S M a n c ws _ (hr.push _) hn hl) ?_
  rintro v h1 ⟨x1, ⟨s, m, rfl, rfl, V, g, b, rfl, hg, hmb, hgs, hbs⟩ | ⟨hc, rfl⟩⟩
  · have y1 := x0.trans x1
    have hb1 := x1.get (push_new (h := h))
    rw [push_size] at hgs hbs
    have hgl := lt_of_get hg
    have hbl := lt_of_get hmb
    have V3 := V.n
    simp only [hb1, Bool.not_true, decide_true, List.flatten_replicate_singleton, coreS, Value.cells, Value.oneCell', Nat.reduceAdd, Nat.reduceSub, Nat.reduceMul, Nat.reduceLeDiff, Int.reduceEq, Nat.reduceEqDiff, M14Fs48]
    repeat (refine And.intro (by first | omega | decide) ?_)
    have hg2 : DeskB (h1.push (.cells (List.replicate n (.int .i64 0)).toArray 3)) g b s m a n c := push_old hg
    refine CallsH.mono (most82 g b s m a n c ws _ hg2 (hr.ext (y1.push _)) hn V) ?_
    rintro v h2 ⟨rfl, x2⟩
    have hg3 : DeskB h2 g b s m a n c := x2.get hg2
    have hz := x2.get (push_new (h := h1) (o := .cells (List.replicate n (.int .i64 0)).toArray 3))
    have hmb2 := x2.get (push_old hmb (o := .cells (List.replicate n (.int .i64 0)).toArray 3))
    have y2 := (y1.push (.cells (List.replicate n (.int .i64 0)).toArray 3)).trans x2
    have hM0 : MapV kvS h2 b [] 0 := ⟨by simpa using hmb2, by simp, by simp⟩
    have hzi : List.replicate n (.int .i64 0) = Eng.ints (List.replicate n 0) := by simp [Eng.ints]
    rw [hzi] at hz
    have hG := gld_le V
    obtain ⟨d1, d2, d3, d4, d5⟩ := dysF_ok V
    have hs := y1.size
    simp only [coreS, Value.cells, Value.oneCell', Nat.reduceAdd, Nat.reduceSub, Nat.reduceMul, Nat.reduceLeDiff, Int.reduceEq, Nat.reduceEqDiff, M14Fs48]
    refine CallsH.mono (fill83 g b s m h1.size a n c (gld ws) ws h hr hn V (by omega) (by omega) (by omega) (by omega) (by omega) n [] _ [] 0 h2 (by simp) y2 hg3 hM0 Hold.nil hz (by simp) (by simp [zsN])) ?_
    rintro v h3 ⟨ch3, ⟨l, hgo, rfl, hz3⟩ | ⟨hgo, _⟩⟩
    · rw [hn, d1] at hgo
      cases hgo
      simp only [coreS, Value.cells, Value.oneCell', Nat.reduceAdd, Nat.reduceSub, Nat.reduceMul, Nat.reduceLeDiff, Int.reduceEq, Nat.reduceEqDiff, M14Fs48]
      subst hn
      exact ⟨⟨fun _ => ⟨h1.size, rfl, by omega, hz3⟩, fun hne => absurd V.chk hne⟩, Chg2.ext y2 ch3 (by omega) (by omega)⟩
    · rw [hn, d1] at hgo; cases hgo
  · simp only [hc, decide_false, Bool.not_false, if_false, coreS, Value.cells, Value.oneCell', Nat.reduceAdd, Nat.reduceSub, Nat.reduceMul, Nat.reduceLeDiff, Int.reduceEq, Nat.reduceEqDiff, M14Fs48]
    exact ⟨⟨fun h0 => absurd h0 hc, fun _ => rfl⟩, x0.trans x1⟩
end Go.Proofs.Ytmgkeeefbfefgaa
