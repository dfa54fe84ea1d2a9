/- Walks: left, pass. -/
import Derived.Test.YtoediaepoddonaaT1
import Derived.Test.YtoediaepoddonaaL1
import Derived.Test.YtoediaepoddonaaEngF
namespace Go.Proofs.Ytoediaepoddonaa
open Go Go.Proofs Go.Eng Tab
set_option maxRecDepth 100000
set_option linter.unusedSimpArgs false
set_option linter.unusedVariables false
set_option maxHeartbeats 1000000
/-- The cells of a round. -/
def rcel (n : Nat) (gone : List Int) (a : Nat) : List Value := .int .i64 n :: ((ints gone) ++ [.int .i64 a])
theorem rcel_n {n a : Nat} {gone : List Int} : (rcel n gone a)[0]? = some (.int .i64 n) := rfl
theorem rcel_at {n a : Nat} {gone : List Int} (hg : gone.length = 12) : (rcel n gone a)[13]? = some (.int .i64 a) := by
  simp [rcel, hg, ints_length, List.getElem?_append]
theorem rcel_gone {n a k : Nat} {gone : List Int} (hk : k < gone.length) : (rcel n gone a)[1 + k]? = some (.int .i64 (gone.getD k 0)) := by
  rw [Nat.add_comm, rcel, List.getElem?_cons_succ, List.getElem?_append_left (by rw [ints_length]; exact hk), ints_getElem? _ _ hk]
theorem left79 (r : Value) (h : Heap) : CallsH Try.prog 79 #[r] h (fun v h' => v = .func (.func 94) #[] #[.pointer (some ⟨h.size, 0, none⟩)] ∧ h' = h.push (.cells r.cells 62)) := by
  refine CallsH_of_exec Try.func79 rfl bod79 ?_
  simp only [Try.ntmps79, Try.results79, coreS, stK_some, splice, Value.cells, Value.oneCell', Nat.reduceAdd, Nat.reduceSub, Nat.reduceMul, Nat.reduceLeDiff, Int.reduceEq, Nat.reduceEqDiff]
theorem left94 (lo bx rb n a : Nat) (gone : List Int) (h : Heap) (hn1 : 1 ≤ n) (hn : n ≤ 12) (ha : a < n) (hg : gone.length = 12) (J : Nat → Heap → Prop) (E : Heap → Prop)
    (hb : ∀ i h, J i h → h[bx]? = some (.cells #[.pointer (some ⟨rb, 0, none⟩)] 62)) (hr : ∀ i h, J i h → h[rb]? = some (.cells (rcel n gone a).toArray 105)) (h0 : J 0 h)
    (step : ∀ i h', i < (leftL n gone a).length → J i h' → CallY Try.prog (.func (.yield lo) #[] #[]) [.int .i64 ((leftL n gone a).getD i 0 : Nat)] h' (fun v h'' => (v = .bool true ∧ J (i + 1) h'') ∨ (v = .bool false ∧ E h''))) :
    CallsH Try.prog 94 #[.func (.yield lo) #[] #[], .pointer (some ⟨bx, 0, none⟩)] h (fun v h' => J (leftL n gone a).length h' ∨ E h') := by
  refine CallsH_of_exec Try.func94 rfl bod94 ?_
  simp only [Try.ntmps94, Try.results94, coreS, stK_some, splice, Value.cells, Value.oneCell', Nat.reduceAdd, Nat.reduceSub, Nat.reduceMul, Nat.reduceLeDiff, Int.reduceEq, Nat.reduceEqDiff, agg3, agg62, fo101_0, fo105_0, fo105_1, fo105_2, inf3, inf62, sz3, sz62, Try.underlying103]
  simp only [hb 0 h h0, hr 0 h h0, rcel_n, coreS, Value.cells, Value.oneCell', Nat.reduceAdd, Nat.reduceSub, Nat.reduceMul, Nat.reduceLeDiff, Int.reduceEq, Nat.reduceEqDiff, agg3, agg62, fo101_0, fo105_0, fo105_1, fo105_2, inf3, inf62, sz3, sz62, Try.underlying103]
  refine WP_loopI [3, 4, 10, 11, 12, 13, 14, 15, 16, 17, 18, 19, 20, 21, 22, 23, 24, 25, 26, 27, 28, 29, 30, 31, 32, 33, 34, 35, 36, 37, 38] (fun g h' => ∃ i : Nat, i ≤ n ∧ g 10 = .int .i64 i ∧ J (((rot n a).take i).filter fun k => gone.getD k 0 == 0).length h') (fun g _ => match g 10 with | .int _ m => n - m.toNat | _ => 0) ?_ ?_
  · exact ⟨0, by omega, rfl, by simpa using h0⟩
  · intro g h' hI
    obtain ⟨i, hi, hg10, hJ⟩ := hI
    simp only [hg10, coreS, Value.cells, Value.oneCell', Nat.reduceAdd, Nat.reduceSub, Nat.reduceMul, Nat.reduceLeDiff, Int.reduceEq, Nat.reduceEqDiff, agg3, agg62, fo101_0, fo105_0, fo105_1, fo105_2, inf3, inf62, sz3, sz62, Try.underlying103]
    refine ⟨fun hlt => ?_, fun hge => ?_⟩
    · refine WP_draw (by kernel_rfl) sta_eq [(0, 0), (1, 0), (2, 0), (3, 0), (4, 0), (5, 0), (6, 0), (7, 0), (8, 0), (9, 0), (10, 0), (11, 0), (12, 0)] (by kernel_rfl) rfl (by kernel_rfl) ?_
      simp only [hb _ h' hJ, hr _ h' hJ, rcel_n, rcel_at hg, coreS, Value.cells, Value.oneCell', Nat.reduceAdd, Nat.reduceSub, Nat.reduceMul, Nat.reduceLeDiff, Int.reduceEq, Nat.reduceEqDiff, drawS, agg3, agg62, fo101_0, fo105_0, fo105_1, fo105_2, inf3, inf62, sz3, sz62, Try.underlying103]
      refine ⟨by rw [inK_i64]; omega, by omega, ?_⟩
      have e1 : ((a : Int) + i).tmod n = ((a + i) % n : Nat) := by rw [Int.tmod_eq_emod_of_nonneg (by omega)]; rfl
      have hk : (a + i) % n < gone.length := by have := Nat.mod_lt (a + i) (show 0 < n by omega); omega
      rw [e1]
      simp only [hb _ h' hJ, hr _ h' hJ, coreS, Value.cells, Value.oneCell', Nat.reduceAdd, Nat.reduceSub, Nat.reduceMul, Nat.reduceLeDiff, Int.reduceEq, Nat.reduceEqDiff, agg3, agg62, fo101_0, fo105_0, fo105_1, fo105_2, inf3, inf62, sz3, sz62, Try.underlying103]
      rw [rcel_gone hk]
      have htake : (rot n a).take (i + 1) = (rot n a).take i ++ [(a + i) % n] := by
        rw [List.take_add_one, List.getElem?_eq_getElem (by rw [rot_length]; omega), rot_get]; rfl
      generalize hkk : (a + i) % n = k at *
      refine ⟨by omega, ?_⟩
      by_cases hz : gone.getD k 0 = 0
      · have hcnt : (((rot n a).take (i + 1)).filter fun k => gone.getD k 0 == 0) = (((rot n a).take i).filter fun k => gone.getD k 0 == 0) ++ [k] := by
          rw [htake, List.filter_append, List.filter_cons_of_pos (by simpa using hz), List.filter_nil]
        have hL : leftL n gone a = (((rot n a).take i).filter fun k => gone.getD k 0 == 0) ++ k :: (((rot n a).drop (i + 1)).filter fun k => gone.getD k 0 == 0) := by
          unfold leftL
          rw [show (rot n a).filter (fun k => gone.getD k 0 == 0) = ((rot n a).take (i + 1) ++ (rot n a).drop (i + 1)).filter (fun k => gone.getD k 0 == 0) by rw [List.take_append_drop], List.filter_append, hcnt, List.append_assoc]
          rfl
        have hget : (leftL n gone a).getD (((rot n a).take i).filter fun k => gone.getD k 0 == 0).length 0 = k := by
          rw [hL]; simp [List.getD]
        have hlt2 : (((rot n a).take i).filter fun k => gone.getD k 0 == 0).length < (leftL n gone a).length := by
          rw [hL]; simp
        have hst := step _ h' hlt2 hJ
        rw [hget] at hst
        simp only [hz, coreS, Value.cells, Value.oneCell', Nat.reduceAdd, Nat.reduceSub, Nat.reduceMul, Nat.reduceLeDiff, Int.reduceEq, Nat.reduceEqDiff, scopeK_normal, scopeK_ret, scopeK_exit, callV_yield, binds_cons, binds_nil, agg3, agg62, fo101_0, fo105_0, fo105_1, fo105_2, inf3, inf62, sz3, sz62, Try.underlying103]
        refine hst.run1 rfl rfl ?_
        rintro v h2 (⟨rfl, hJ2⟩ | ⟨rfl, hE⟩)
        · simp only [coreS, Value.cells, Value.oneCell', Nat.reduceAdd, Nat.reduceSub, Nat.reduceMul, Nat.reduceLeDiff, Int.reduceEq, Nat.reduceEqDiff, scopeK_normal, scopeK_ret, scopeK_exit, callV_yield, binds_cons, binds_nil, agg3, agg62, fo101_0, fo105_0, fo105_1, fo105_2, inf3, inf62, sz3, sz62, Try.underlying103]
          refine ⟨by rw [inK_i64]; omega, roundK_mk (by kernel_rfl) ⟨i + 1, by omega, rfl, ?_⟩ ?_⟩
          · rw [hcnt, List.length_append]; exact hJ2
          · show n - ((i : Int) + 1).toNat < n - (i : Int).toNat
            omega
        · simp only [coreS, Value.cells, Value.oneCell', Nat.reduceAdd, Nat.reduceSub, Nat.reduceMul, Nat.reduceLeDiff, Int.reduceEq, Nat.reduceEqDiff, scopeK_normal, scopeK_ret, scopeK_exit, callV_yield, binds_cons, binds_nil, agg3, agg62, fo101_0, fo105_0, fo105_1, fo105_2, inf3, inf62, sz3, sz62, Try.underlying103]
          exact .inr hE
      · have hcnt : (((rot n a).take (i + 1)).filter fun k => gone.getD k 0 == 0) = (((rot n a).take i).filter fun k => gone.getD k 0 == 0) := by
          rw [htake, List.filter_append, List.filter_cons_of_neg (by simpa using hz), List.filter_nil, List.append_nil]
        simp only [hz, coreS, Value.cells, Value.oneCell', Nat.reduceAdd, Nat.reduceSub, Nat.reduceMul, Nat.reduceLeDiff, Int.reduceEq, Nat.reduceEqDiff, scopeK_normal, scopeK_ret, scopeK_exit, callV_yield, binds_cons, binds_nil, agg3, agg62, fo101_0, fo105_0, fo105_1, fo105_2, inf3, inf62, sz3, sz62, Try.underlying103]
        refine ⟨by rw [inK_i64]; omega, roundK_mk (by kernel_rfl) ⟨i + 1, by omega, rfl, ?_⟩ ?_⟩
        · rw [hcnt]; exact hJ
        · show n - ((i : Int) + 1).toNat < n - (i : Int).toNat
          omega
    · have : i = n := by omega
      subst this
      rw [List.take_of_length_le (by rw [rot_length]; omega)] at hJ
      exact .inl hJ
theorem rcel_set {n a k : Nat} {gone : List Int} (hk : k < gone.length) : splice (rcel n gone a) (1 + k) [.int .i64 1] = rcel n (gone.set k 1) a := by
  rw [splice_one _ _ _ (by simp [rcel, ints_length]; omega), Nat.add_comm, rcel, List.set_cons_succ, List.set_append_left _ _ (by rw [ints_length]; exact hk), ints_set]
  rfl
theorem rcel_seat {n a b : Nat} {gone : List Int} (hg : gone.length = 12) : splice (rcel n gone a) 13 [.int .i64 b] = rcel n gone b := by
  rw [splice_one _ _ _ (by simp [rcel, ints_length]; omega), rcel, List.set_cons_succ, List.set_append_right _ _ (by rw [ints_length]; omega), ints_length, hg]
  rfl
theorem rcel_len {n a : Nat} {gone : List Int} (hg : gone.length = 12) : (rcel n gone a).length = 14 := by simp [rcel, ints_length, hg]
/-- One block has turned; new ones may have come. -/
structure Chg (h h' : Heap) (b : Nat) : Prop where
  size : h.size ≤ h'.size
  old : ∀ c, c < h.size → c ≠ b → h'[c]? = h[c]?
theorem Chg.of_ext {h h' : Heap} (x : Ext h h') (b : Nat) : Chg h h' b := ⟨x.size, fun c hc _ => x.old c hc⟩
theorem Chg.trans {h h' h'' : Heap} {b : Nat} (x : Chg h h' b) (y : Chg h' h'' b) : Chg h h'' b := ⟨Nat.le_trans x.size y.size, fun c hc hne => (y.old c (Nat.lt_of_lt_of_le hc x.size) hne).trans (x.old c hc hne)⟩
theorem Chg.get {h h' : Heap} {b c : Nat} {o : Obj} (x : Chg h h' b) (hc : h[c]? = some o) (hne : c ≠ b) : h'[c]? = some o := (x.old c (lt_of_get hc) hne).trans hc
theorem Chg.upd {h h' h'' : Heap} {b : Nat} (x : Chg h h' b) (u : Upd h' h'' b) : Chg h h'' b := ⟨by rw [u.size]; exact x.size, fun c hc hne => (u.old c hne).trans (x.old c hc hne)⟩
theorem Chg.upd_new {h h' h'' : Heap} {b c : Nat} (x : Chg h h' b) (u : Upd h' h'' c) (hc : h.size ≤ c) : Chg h h'' b := ⟨by rw [u.size]; exact x.size, fun i hi hne => (u.old i (by omega)).trans (x.old i hi hne)⟩
/-- Passing over m shops. -/
theorem pass53 (rb n a m : Nat) (gone : List Int) (h : Heap) (hn1 : 1 ≤ n) (hn : n ≤ 12) (ha : a < n) (hg : gone.length = 12) (hr : h[rb]? = some (.cells (rcel n gone a).toArray 105)) (hm : m < (leftL n gone a).length) :
    CallsH Try.prog 53 #[.pointer (some ⟨rb, 0, none⟩), .int .i64 m] h (fun v h' => v = .int .i64 ((leftL n gone a).getD m 0 : Nat) ∧ Chg h h' rb ∧
      h'[rb]? = some (.cells (rcel n (gone.set ((leftL n gone a).getD m 0) 1) (((leftL n gone a).getD m 0 + 1) % n)).toArray 105)) := by
  refine CallsH_of_exec Try.func53 rfl bod53 ?_
  simp only [Try.ntmps53, Try.results53, coreS, stK_some, splice, Value.cells, Value.oneCell', Nat.reduceAdd, Nat.reduceSub, Nat.reduceMul, Nat.reduceLeDiff, Int.reduceEq, Nat.reduceEqDiff, agg3, fo101_0, fo105_0, fo105_1, fo105_2, inf3, sz3, zero3, Try.underlying103]
  refine exec_scope ?_
  simp only [push_old hr, rcel_at hg, coreS, Value.cells, Value.oneCell', Nat.reduceAdd, Nat.reduceSub, Nat.reduceMul, Nat.reduceLeDiff, Int.reduceEq, Nat.reduceEqDiff, scopeK_normal, scopeK_ret, scopeK_exit, callV_yield, binds_cons, binds_nil, agg3, fo101_0, fo105_0, fo105_1, fo105_2, inf3, sz3, zero3, Try.underlying103]
  have hrb := lt_of_get hr
  have hm12 : m < 12 := by
    have : (leftL n gone a).length ≤ (rot n a).length := List.length_filter_le _ _
    rw [rot_length] at this
    omega
  have hr2 := push_old (o := .cells #[.int .i64 0] 3) (push_old (o := .cells #[.int .i64 m] 3) hr)
  refine stK_abs (c := [.int .i64 0]) (by simp only [push_get, push_size, if_true]) (by simp) fun h3 hb5 u3 => ?_
  have x3 : Ext h h3 := u3.ext (((Ext.refl h).push _).push _) (by omega)
  have hb3 : h3[h.size]? = some (.cells #[.int .i64 m] 3) := u3.get (by simp only [push_get, push_size, Nat.left_eq_add, Nat.succ_ne_self, if_false, if_true]) (by omega)
  have hr3 : h3[rb]? = some (.cells (rcel n gone a).toArray 105) := x3.get hr
  have hs3 : h3.size = h.size + 2 := by rw [u3.size]; simp
  replace hb5 : h3[h.size + 1]? = some (.cells #[.int .i64 a] 3) := hb5
  clear u3
  simp only [coreS, Value.cells, Value.oneCell', Nat.reduceAdd, Nat.reduceSub, Nat.reduceMul, Nat.reduceLeDiff, Int.reduceEq, Nat.reduceEqDiff, scopeK_normal, scopeK_ret, scopeK_exit, callV_yield, binds_cons, binds_nil, agg3, fo101_0, fo105_0, fo105_1, fo105_2, inf3, sz3, zero3, Try.underlying103]
  refine CallsH.mono (left79 _ _) ?_
  rintro v h4 ⟨rfl, rfl⟩
  simp only [coreS, Value.cells, Value.oneCell', Nat.reduceAdd, Nat.reduceSub, Nat.reduceMul, Nat.reduceLeDiff, Int.reduceEq, Nat.reduceEqDiff, scopeK_normal, scopeK_ret, scopeK_exit, callV_yield, binds_cons, binds_nil, agg3, fo101_0, fo105_0, fo105_1, fo105_2, inf3, sz3, zero3, Try.underlying103]
  refine WP_range' rfl ?_
  intro R R1 R2 R3 R4 R5 R6 R7
  simp only [push_size, hs3] at R7 ⊢
  have es : h.size + 2 + 1 = h.size + 3 ∧ h.size + 2 + 1 + 1 = h.size + 4 := ⟨by omega, by omega⟩
  rw [es.2, es.1] at *
  obtain ⟨hh, hhe⟩ : ∃ hh, hh = ((h3.push (.cells (Value.pointer (some ⟨rb, 0, none⟩)).cells 62)).push (.deferred (some []))).push (.loop R) := ⟨_, rfl⟩
  have y1 : hh[h.size]? = some (.cells #[.int .i64 m] 3) := by rw [hhe]; exact push_old (push_old (push_old hb3))
  have y2 : hh[h.size + 1]? = some (.cells #[.int .i64 a] 3) := by rw [hhe]; exact push_old (push_old (push_old hb5))
  have y3 : hh[h.size + 2]? = some (.cells #[.pointer (some ⟨rb, 0, none⟩)] 62) := by rw [hhe, ← hs3]; exact push_old (push_old push_new)
  have y4 : hh[h.size + 3]? = some (.deferred (some [])) := by
    rw [hhe]; refine push_old ?_; rw [show h.size + 3 = (h3.push (.cells (Value.pointer (some ⟨rb, 0, none⟩)).cells 62)).size by rw [push_size, hs3]]; exact push_new
  have y5 : hh[h.size + 4]? = some (.loop R) := by
    rw [hhe, show h.size + 4 = ((h3.push (.cells (Value.pointer (some ⟨rb, 0, none⟩)).cells 62)).push (.deferred (some []))).size by rw [push_size, push_size, hs3]]; exact push_new
  have y6 : Ext h hh := by rw [hhe]; exact ((x3.push _).push _).push _
  have y7 : hh[rb]? = some (.cells (rcel n gone a).toArray 105) := y6.get hr
  show CallsH Try.prog 94 #[.func (.yield (h.size + 4)) #[] #[], .pointer (some ⟨h.size + 2, 0, none⟩)] (((h3.push (.cells (Value.pointer (some ⟨rb, 0, none⟩)).cells 62)).push (.deferred (some []))).push (.loop R)) _
  rw [← hhe]
  clear hhe hb3 hb5 hr3 x3 hs3 hr2
  refine CallsH.mono (left94 (h.size + 4) (h.size + 2) rb n a gone hh hn1 hn ha hg
    (fun i h' => i ≤ m ∧ h'[h.size]? = some (.cells #[.int .i64 ((m : Int) - i)] 3) ∧ h'[h.size + 1]? = some (.cells #[.int .i64 a] 3) ∧ h'[h.size + 2]? = some (.cells #[.pointer (some ⟨rb, 0, none⟩)] 62) ∧
      h'[h.size + 3]? = some (.deferred (some [])) ∧ h'[h.size + 4]? = some (.loop R) ∧ Ext h h')
    (fun h' => h'[h.size + 1]? = some (.cells #[.int .i64 ((leftL n gone a).getD m 0 : Nat)] 3) ∧ h'[h.size + 3]? = some (.deferred (some [])) ∧ (∃ rec : Loop, h'[h.size + 4]? = some (.loop rec) ∧ rec.state = .done ∧ rec.pending = some (.exit 0)) ∧ Ext h h')
    (fun i h' H => H.2.2.2.1) (fun i h' H => H.2.2.2.2.2.2.get hr) ⟨by omega, by simpa using y1, y2, y3, y4, y5, y6⟩ ?_) ?_
  · rintro i h' hi ⟨z0, z1, z2, z3, z4, z5, z6⟩
    refine callY_yield z5 (by rw [R4]; rfl) ?_
    rw [R3, R4, R5, R6]
    simp only [coreS, Value.cells, Value.oneCell', Nat.reduceAdd, Nat.reduceSub, Nat.reduceMul, Nat.reduceLeDiff, Int.reduceEq, Nat.reduceEqDiff, scopeK_normal, scopeK_ret, scopeK_exit, callV_yield, binds_cons, binds_nil, agg3, fo101_0, fo105_0, fo105_1, fo105_2, inf3, sz3, zero3, Try.underlying103]
    refine asgY_normal z5 R1 ?_
    obtain ⟨h6, hh6⟩ : ∃ h6, h6 = h'.setIfInBounds (h.size + 4) (.loop { R with state := .busy }) := ⟨_, rfl⟩
    have u6 : Upd h' h6 (h.size + 4) := by rw [hh6]; exact Upd.set
    have w5 : h6[h.size + 4]? = some (.loop { R with state := .busy }) := by rw [hh6]; exact set_get (lt_of_get z5)
    have w1 := u6.get z1 (by omega)
    have w2 := u6.get z2 (by omega)
    have w3 := u6.get z3 (by omega)
    have w4 := u6.get z4 (by omega)
    have w6 : Ext h h6 := u6.ext z6 (by omega)
    show exec _ _ _ _ _ _ (h'.setIfInBounds (h.size + 4) (.loop { R with state := .busy }))
    rw [← hh6]
    clear hh6 u6 z1 z2 z3 z4 z5 z6
    simp only [w1, w2, coreS, Value.cells, Value.oneCell', Nat.reduceAdd, Nat.reduceSub, Nat.reduceMul, Nat.reduceLeDiff, Int.reduceEq, Nat.reduceEqDiff, scopeK_normal, scopeK_ret, scopeK_exit, callV_yield, binds_cons, binds_nil, agg3, fo101_0, fo105_0, fo105_1, fo105_2, inf3, sz3, zero3, Try.underlying103]
    refine ⟨fun he => ?_, fun hne => ?_⟩
    · have hie : i = m := by omega
      subst hie
      refine stK_abs (c := [.int .i64 a]) w2 (by simp) fun h7 g2 u7 => ?_
      simp only [coreS, Value.cells, Value.oneCell', Nat.reduceAdd, Nat.reduceSub, Nat.reduceMul, Nat.reduceLeDiff, Int.reduceEq, Nat.reduceEqDiff, scopeK_normal, scopeK_ret, scopeK_exit, callV_yield, binds_cons, binds_nil, agg3, fo101_0, fo105_0, fo105_1, fo105_2, inf3, sz3, zero3, Try.underlying103]
      refine ⟨_, u7.get w5 (by omega), ?_⟩
      have u8 : Upd h7 (h7.setIfInBounds (h.size + 4) (.loop { ({ R with state := .busy } : Loop) with state := .done, pending := some (.exit 0) })) (h.size + 4) := Upd.set
      refine .inr ⟨rfl, u8.get g2 (by omega), u8.get (u7.get w4 (by omega)) (by omega), ⟨_, set_get (by have := lt_of_get w5; rw [u7.size]; exact this), rfl, rfl⟩, u8.ext (u7.ext w6 (by omega)) (by omega)⟩
    · refine ⟨by rw [inK_i64]; omega, ?_⟩
      refine stK_abs (c := [.int .i64 ((m : Int) - i)]) w1 (by simp) fun h7 g1 u7 => ?_
      simp only [coreS, Value.cells, Value.oneCell', Nat.reduceAdd, Nat.reduceSub, Nat.reduceMul, Nat.reduceLeDiff, Int.reduceEq, Nat.reduceEqDiff, scopeK_normal, scopeK_ret, scopeK_exit, callV_yield, binds_cons, binds_nil, agg3, fo101_0, fo105_0, fo105_1, fo105_2, inf3, sz3, zero3, Try.underlying103]
      have w5' := u7.get w5 (by omega)
      refine ⟨_, w5', ?_⟩
      have u8 : Upd h7 (h7.setIfInBounds (h.size + 4) (.loop { ({ R with state := .busy } : Loop) with state := .ready, pending := none })) (h.size + 4) := Upd.set
      refine .inl ⟨rfl, by omega, ?_, u8.get (u7.get w2 (by omega)) (by omega), u8.get (u7.get w3 (by omega)) (by omega), u8.get (u7.get w4 (by omega)) (by omega), ?_, u8.ext (u7.ext w6 (by omega)) (by omega)⟩
      · refine (u8.get g1 (by omega)).trans ?_
        show some (Obj.cells #[.int .i64 ((m : Int) - i - 1)] 3) = some (Obj.cells #[.int .i64 ((m : Int) - ((i + 1 : Nat) : Int))] 3)
        rw [show (m : Int) - ((i + 1 : Nat) : Int) = (m : Int) - i - 1 by omega]
      · rw [set_get (lt_of_get w5'), Loop.back R1 R2]
  · rintro v h5 (⟨z0, _⟩ | ⟨z2, z4, ⟨rec, z5, z6, z7⟩, z8⟩)
    · exact absurd z0 (by omega)
    · refine ⟨rec, z5, by rw [z6]; decide, ?_⟩
      rw [z7]
      show exec none Try.prog (.exit 0) _ _ _ _
      obtain ⟨h6, hh6⟩ : ∃ h6, h6 = h5.setIfInBounds (h.size + 4) (.loop { rec with state := .exhausted }) := ⟨_, rfl⟩
      have u6 : Upd h5 h6 (h.size + 4) := by rw [hh6]; exact Upd.set
      have w2 := u6.get z2 (by omega)
      have w4 := u6.get z4 (by omega)
      have w8 : Ext h h6 := u6.ext z8 (by omega)
      have wr := w8.get hr
      rw [← z7, ← hh6]
      clear hh6 u6 z2 z4 z5 z6 z7 z8 R1 R2 R3 R4 R5 R6 R7 y1 y2 y3 y4 y5 y6 y7 es
      obtain ⟨k, hk⟩ : ∃ k, k = (leftL n gone a).getD m 0 := ⟨_, rfl⟩
      have hkn : k < n := by
        rw [hk]
        have : (leftL n gone a).getD m 0 ∈ rot n a := by
          have hmem : (leftL n gone a).getD m 0 ∈ leftL n gone a := by
            rw [List.getD, List.getElem?_eq_getElem hm]
            exact List.getElem_mem hm
          exact (List.mem_filter.1 hmem).1
        exact rot_mem this
      rw [← hk] at w2 ⊢
      simp only [coreS, Value.cells, Value.oneCell', Nat.reduceAdd, Nat.reduceSub, Nat.reduceMul, Nat.reduceLeDiff, Int.reduceEq, Nat.reduceEqDiff, scopeK_normal, scopeK_ret, scopeK_exit, callV_yield, binds_cons, binds_nil, agg3, fo101_0, fo105_0, fo105_1, fo105_2, inf3, sz3, zero3, Try.underlying103]
      refine WP_draw (by kernel_rfl) sta_eq [(0, 0), (1, 0), (2, 0), (3, 0), (4, 0), (5, 1)] (by kernel_rfl) rfl (by kernel_rfl) ?_
      simp only [w2, wr, coreS, Value.cells, Value.oneCell', Nat.reduceAdd, Nat.reduceSub, Nat.reduceMul, Nat.reduceLeDiff, Int.reduceEq, Nat.reduceEqDiff, scopeK_normal, scopeK_ret, scopeK_exit, callV_yield, binds_cons, binds_nil, drawS, agg3, fo101_0, fo105_0, fo105_1, fo105_2, inf3, sz3, zero3, Try.underlying103]
      refine ⟨by omega, stK_abs wr (by rw [rcel_len hg]; simp; omega) fun h7 g7 u7 => ?_⟩
      rw [rcel_set (by omega)] at g7
      have v2 := u7.get w2 (by omega)
      have v4 := u7.get w4 (by omega)
      have v8 : Chg h h7 rb := (Chg.of_ext w8 rb).upd u7
      clear w2 w4 w8 u7 wr
      simp only [coreS, Value.cells, Value.oneCell', Nat.reduceAdd, Nat.reduceSub, Nat.reduceMul, Nat.reduceLeDiff, Int.reduceEq, Nat.reduceEqDiff, scopeK_normal, scopeK_ret, scopeK_exit, callV_yield, binds_cons, binds_nil, drawS, agg3, fo101_0, fo105_0, fo105_1, fo105_2, inf3, sz3, zero3, Try.underlying103, hvK_eq]
      refine WP_draw (by kernel_rfl) sta_eq [(0, 0), (1, 0), (2, 0), (3, 0), (4, 0), (5, 0), (6, 0), (7, 0), (8, 0), (9, 0), (10, 0), (11, 1)] (by kernel_rfl) rfl (by kernel_rfl) ?_
      simp only [v2, g7, rcel_n, coreS, Value.cells, Value.oneCell', Nat.reduceAdd, Nat.reduceSub, Nat.reduceMul, Nat.reduceLeDiff, Int.reduceEq, Nat.reduceEqDiff, scopeK_normal, scopeK_ret, scopeK_exit, callV_yield, binds_cons, binds_nil, drawS, agg3, fo101_0, fo105_0, fo105_1, fo105_2, inf3, sz3, zero3, Try.underlying103]
      have e2 : ((k : Int) + 1).tmod n = ((k + 1) % n : Nat) := by rw [Int.tmod_eq_emod_of_nonneg (by omega)]; rfl
      rw [e2]
      refine ⟨by rw [inK_i64]; omega, by omega, ?_⟩
      refine stK_abs g7 (by rw [rcel_len (by rw [List.length_set]; exact hg)]; simp) fun h8 g8 u8 => ?_
      rw [rcel_seat (by rw [List.length_set]; exact hg)] at g8
      have t2 := u8.get v2 (by omega)
      have t4 := u8.get v4 (by omega)
      have t8 := v8.upd u8
      simp only [coreS, Value.cells, Value.oneCell', Nat.reduceAdd, Nat.reduceSub, Nat.reduceMul, Nat.reduceLeDiff, Int.reduceEq, Nat.reduceEqDiff, scopeK_normal, scopeK_ret, scopeK_exit, callV_yield, binds_cons, binds_nil, drawS, agg3, fo101_0, fo105_0, fo105_1, fo105_2, inf3, sz3, zero3, Try.underlying103, hvK_eq]
      simp only [t2, coreS, Value.cells, Value.oneCell', Nat.reduceAdd, Nat.reduceSub, Nat.reduceMul, Nat.reduceLeDiff, Int.reduceEq, Nat.reduceEqDiff, scopeK_normal, scopeK_ret, scopeK_exit, callV_yield, binds_cons, binds_nil, drawS, agg3, fo101_0, fo105_0, fo105_1, fo105_2, inf3, sz3, zero3, Try.underlying103]
      refine fin_mark t4 ?_
      simp only [coreS, Value.cells, Value.oneCell', Nat.reduceAdd, Nat.reduceSub, Nat.reduceMul, Nat.reduceLeDiff, Int.reduceEq, Nat.reduceEqDiff, scopeK_normal, scopeK_ret, scopeK_exit, callV_yield, binds_cons, binds_nil, agg3, fo101_0, fo105_0, fo105_1, fo105_2, inf3, sz3, zero3, Try.underlying103]
      have u9 : Upd h8 (h8.setIfInBounds (h.size + 3) (.deferred none)) (h.size + 3) := Upd.set
      exact ⟨t8.upd_new u9 (by omega), u9.get g8 (by omega)⟩
end Go.Proofs.Ytoediaepoddonaa
