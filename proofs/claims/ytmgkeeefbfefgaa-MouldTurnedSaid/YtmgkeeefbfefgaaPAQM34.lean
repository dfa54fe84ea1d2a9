/- MouldTurned returns true. -/
import Derived.Test.YtmgkeeefbfefgaaPAQM33
import Derived.Test.YtmgkeeefbfefgaaPA12
import Derived.Test.YtmgkeeefbfefgaaPAQWork
namespace Go.Proofs.Ytmgkeeefbfefgaa
open Go Go.Proofs Go.Eng Go.Run Tab
set_option maxRecDepth 100000
set_option linter.unusedSimpArgs false
set_option linter.unusedVariables false
set_option linter.defProp false
set_option maxHeartbeats 8000000
set_option linter.defProp false
def M34Fs12 := (And.intro (And.intro (And.intro (And.intro @agg22 (And.intro @agg24 @agg3)) (And.intro @by58 (And.intro @fo24_0 @fo24_1))) (And.intro (And.intro @fo24_2 (And.intro @fo58_0 @fo58_1)) (And.intro (And.intro @fps24_0 @fps24_1) (And.intro @fps58_0 @fps58_1)))) (And.intro (And.intro (And.intro @inf22 (And.intro @inf24 @inf3)) (And.intro @inf58 (And.intro @okf24 @okf58))) (And.intro (And.intro @sz22 (And.intro @sz24 @sz3)) (And.intro (And.intro @sz58 @zero24) (And.intro @zero58 @Try.underlying22)))))
/-- A want with its shop and its mould exchanged. -/
def trW (w : Wn) : Wn := ⟨w.m, w.s⟩
theorem wAt_tr {ws : List Wn} {i : Nat} : wAt (ws.map trW) i = trW (wAt ws i) := by
  simp only [wAt, List.getD_eq_getElem?_getD, List.getElem?_map]
  cases ws[i]? <;> rfl
theorem sh_tr {ws : List Wn} : shN (ws.map trW) = moN ws := by funext i; simp only [shN, moN, wAt_tr]; rfl
theorem mo_tr {ws : List Wn} : moN (ws.map trW) = shN ws := by funext i; simp only [shN, moN, wAt_tr]; rfl
theorem tr_Vb {S M : Nat} {ws : List Wn} (V : Vb S M ws) : Vb M S (ws.map trW) :=
  ⟨V.m1, V.m2, V.s1, V.s2, by rw [List.length_map]; exact V.n, fun w hw => by
    obtain ⟨u, hu, rfl⟩ := List.mem_map.1 hw
    exact ⟨(V.ok u hu).2, (V.ok u hu).1⟩⟩
theorem Great_uniq {sh mo : Nat → Nat} {n D D' : Nat} (G : MB.Great sh mo n D) (G' : MB.Great sh mo n D') : D = D' := by
  have key : ∀ {A B : Nat}, MB.Great sh mo n A → MB.Great sh mo n B → A ≤ B := fun {A B} GA GB => by
    rcases GA.is with h | ⟨s, h⟩ | ⟨s, h⟩
    · omega
    · have := GB.sle s; omega
    · have := GB.mle s; omega
  exact Nat.le_antisymm (key G G') (key G' G)
theorem gld_tr {S M : Nat} {ws : List Wn} (V : Vb S M ws) : gld (ws.map trW) = gld ws := by
  have G := gld_great (tr_Vb V)
  rw [sh_tr, mo_tr, List.length_map] at G
  refine Great_uniq (sh := shN ws) (mo := moN ws) (n := ws.length) ⟨G.mle, G.sle, ?_⟩ (gld_great V)
  rcases G.is with h | h | h
  · exact .inl h
  · exact .inr (.inr h)
  · exact .inr (.inl h)
theorem dysF_tr {S M : Nat} {ws : List Wn} (V : Vb S M ws) : dysF (ws.map trW) = dysF ws := by
  unfold dysF
  rw [sh_tr, mo_tr, gld_tr V, List.length_map, MB.go_turn]
theorem mxv_tr {S M : Nat} {ws : List Wn} (V : Vb S M ws) {l : List Nat} (hl : ∀ i ∈ l, i < ws.length) : mxv M S (ws.map trW) l = mxv S M ws l := by
  have A := mxv_Mx (tr_Vb V) l (fun i hi => by rw [List.length_map]; exact hl i hi)
  have B := mxv_Mx V l hl
  rw [sh_tr, mo_tr] at A
  obtain ⟨L, l1, l2, l3⟩ := A.some_
  obtain ⟨K, k1, k2, k3⟩ := B.some_
  have h1 := B.most L (MB.free_turn.1 l1) l2
  have h2 := A.most K (MB.free_turn.2 k1) k2
  omega
theorem lsG_tr {S M : Nat} {ws : List Wn} (V : Vb S M ws) : ∀ i, lsG M S (ws.map trW) i = lsG S M ws i
  | 0 => by unfold lsG MB.lgo; rw [List.length_map]
  | i + 1 => by
    have ih := lsG_tr V i
    have I := lsG_inv (S := S) (M := M) (ws := ws) i
    have e1 : lsG S M ws (i + 1) = MB.lstep (shN ws) (moN ws) (mxv S M ws) (mxv S M ws (List.range ws.length)) (lsG S M ws i) i := rfl
    have e2 : lsG M S (ws.map trW) (i + 1) = MB.lstep (shN (ws.map trW)) (moN (ws.map trW)) (mxv M S (ws.map trW)) (mxv M S (ws.map trW) (List.range (ws.map trW).length)) (lsG M S (ws.map trW) i) i := rfl
    have er : ∀ l k, MB.rest (moN ws) (shN ws) l k = MB.rest (shN ws) (moN ws) l k := fun l k => by unfold MB.rest; rw [MB.clash_turn]
    rw [e1, e2, ih, sh_tr, mo_tr, List.length_map, mxv_tr V fun k hk => List.mem_range.1 hk]
    unfold MB.lstep
    rw [er, mxv_tr V fun k hk => I.ll k (MB.mem_rest.1 hk).1]
theorem lsN_tr {S M : Nat} {ws : List Wn} (V : Vb S M ws) : lsN M S (ws.map trW) = lsN S M ws := by
  unfold lsN
  rw [List.length_map, lsG_tr V]
theorem chkL_tr {S M : Nat} {ws : List Wn} (V : Vb S M ws) (list : List Int) : chkL M S (ws.map trW) list = chkL S M ws list := by
  unfold chkL
  rw [V.chk, (tr_Vb V).chk, List.length_map, sh_tr, mo_tr]
  by_cases h : MB.free (shN ws) (moN ws) (natL list)
  · rw [if_pos h, if_pos (MB.free_turn.2 h)]
  · rw [if_neg h, if_neg fun q => h (MB.free_turn.1 q)]
theorem covE_tr {S M : Nat} {ws : List Wn} (V : Vb S M ws) (X Y : List Int) : covE M S (ws.map trW) Y X = covE S M ws X Y ∧ covN M S (ws.map trW) Y X = covN S M ws X Y := by
  have e : covE M S (ws.map trW) Y X = covE S M ws X Y := by
    unfold covE
    rw [V.chk, (tr_Vb V).chk, List.any_map]
    have h1 : ((fun w : Wn => !Y.contains w.s && !X.contains w.m) ∘ trW) = fun w => !X.contains w.s && !Y.contains w.m := by
      funext w
      show (!Y.contains w.m && !X.contains w.s) = _
      rw [Bool.and_comm]
    rw [h1]
    have h2 : (riseB M Y = false ∨ riseB S X = false) ↔ (riseB S X = false ∨ riseB M Y = false) := or_comm
    simp only [h2]
  refine ⟨e, ?_⟩
  unfold covN
  rw [e, Int.add_comm]
theorem turned12 (S M : Int) (a : Option Addr) (n c : Nat) (ws : List Wn) (x y z : Int) (h : Eng.Heap) (hr : Row h a (wsV ws)) (hn : n = ws.length) (hx : 0 ≤ x ∧ x ≤ 65535) (hy : 0 ≤ y ∧ y ≤ 65535) (hz : 0 ≤ z ∧ z ≤ 65535) :
    CallsH Try.prog 12 #[.agg #[.int .i64 S, .int .i64 M, .slice a n c], .int .u16 x, .int .u16 y, .int .u16 z] h (fun v h' => v = .bool true ∧ Ext h h') := by
  (refine CallsH_of_exec Try.func12 rfl bod12 ?_; simp only [Try.ntmps12, Try.results12, coreS, stK_some, splice, Value.cells, Value.oneCell', Nat.reduceAdd, Nat.reduceSub, Nat.reduceMul, Nat.reduceLeDiff, Int.reduceEq, Nat.reduceEqDiff, M34Fs12])
  have x0 : Ext h (h.push (.cells #[.int .i64 S, .int .i64 M, .slice a n c] 24)) := (Ext.refl h).push _
  have hb0 := push_new (h := h) (o := .cells #[.int .i64 S, .int .i64 M, .slice a n c] 24)
  generalize h.push (.cells #[.int .i64 S, .int .i64 M, .slice a n c] 24) = hh at x0 hb0 ⊢
  refine CallsH.mono (fine36 S M a n c ws hh (hr.ext x0) hn) ?_
  rintro v h1 ⟨rfl, x1⟩
  have out : ∀ h1, Ext h h1 → CallsH Try.prog 17 #[] h1 (fun v h' => v = .bool true ∧ Ext h h') := fun h1 x => CallsH.mono (works17 h1) fun v h' q => ⟨q.1, x.trans q.2⟩
  have y1 := x0.trans x1
  have hb1 := x1.get hb0
  by_cases hc : chk S M ws = 0
  case neg =>
    simp only [hc, decide_false, Bool.not_false, coreS, Value.cells, Value.oneCell', Nat.reduceAdd, Nat.reduceSub, Nat.reduceMul, Nat.reduceLeDiff, Int.reduceEq, Nat.reduceEqDiff, M34Fs12]
    refine CallsH.mono (out _ y1) ?_
    rintro v h2 ⟨rfl, x2⟩
    simp only [coreS, Value.cells, Value.oneCell', Nat.reduceAdd, Nat.reduceSub, Nat.reduceMul, Nat.reduceLeDiff, Int.reduceEq, Nat.reduceEqDiff, M34Fs12]
    exact x2
  obtain ⟨s, m, rfl, rfl, V⟩ := chk_ok hc
  have hV := V.n
  have v1 := V.s1
  have v2 := V.s2
  have v3 := V.m1
  have v4 := V.m2
  have ne1 : ¬ h.size = h1.size := by have := lt_of_get hb1; omega
  simp only [hc, hb1, ne1, if_false, splice, List.drop, List.take, decide_true, Bool.not_true, coreS, Value.cells, Value.oneCell', Nat.reduceAdd, Nat.reduceSub, Nat.reduceMul, Nat.reduceLeDiff, Int.reduceEq, Nat.reduceEqDiff, M34Fs12]
  refine stK_abs (c := [.int .i64 0, .int .i64 0, .slice none 0 0]) (off := 0) (vs := [.int .i64 m, .int .i64 s, .slice none 0 0]) push_new (by simp) fun h2 b9c u2 => ?_
  simp only [splice, List.drop, List.take] at b9c
  have x2 : Ext h1 h2 := u2.ext ((Ext.refl h1).push _) (Nat.le_refl _)
  have hb2 := x2.get hb1
  obtain ⟨b9, hb9⟩ : ∃ b, b = h1.size := ⟨_, rfl⟩
  rw [← hb9] at b9c
  rw [← hb9]
  simp only [coreS, Value.cells, Value.oneCell', Nat.reduceAdd, Nat.reduceSub, Nat.reduceMul, Nat.reduceLeDiff, Int.reduceEq, Nat.reduceEqDiff, M34Fs12]
  refine WP_loopI [10, 43, 44, 45, 46, 47, 48, 49, 50, 51, 52, 53, 54, 55, 56, 57, 58, 59, 60, 61, 62, 63, 64, 65, 66, 67] (fun e h' => Ext h1 h' ∧ ∃ i : Nat, i ≤ n ∧ e 10 = .int .i64 i ∧ ∃ a' c', h'[b9]? = some (.cells #[.int .i64 m, .int .i64 s, .slice a' i c'] 24) ∧ OwnV h1.size h' 58 2 a' i c' (wsV ((ws.take i).map trW))) (fun e _ => match e 10 with | .int _ q => n - q.toNat | _ => 0) ⟨x2, 0, by omega, rfl, none, 0, b9c, OwnV.nil _ _ _ _⟩ ?_
  rintro e h4 ⟨x4, i, hi, he, a4, c4, b4c, O4⟩
  have y4 := y1.trans x4
  have hb4 := x4.get hb1
  have hr4 := hr.ext y4
  by_cases hin : i < n
  · have hlt : (i : Int) < (n : Int) := by omega
    have hiu : i < ws.length := by omega
    have fa := faR hr4 hiu
    have k0 := cellW0 hr4 hiu
    have k1 := cellW1 hr4 hiu
    have sm := rowW_some hr4 hiu
    have meas : n - ((i : Int) + 1).toNat < n - (i : Int).toNat := by omega
    obtain ⟨u, hu⟩ : ∃ u : Wn, u = trW (wAt ws i) := ⟨_, rfl⟩
    have hus : u.s = (wAt ws i).m := by rw [hu]; rfl
    have hum : u.m = (wAt ws i).s := by rw [hu]; rfl
    rw [← hum] at k0
    rw [← hus] at k1
    have htk : (ws.take (i + 1)).map trW = (ws.take i).map trW ++ [u] := by
      rw [List.take_add_one, List.getElem?_eq_getElem hiu, Option.toList_some, List.map_append, hu, wAt_eq hiu]
      rfl
    simp only [he, hlt, hb4, decide_true, coreS, Value.cells, Value.oneCell', Nat.reduceAdd, Nat.reduceSub, Nat.reduceMul, Nat.reduceLeDiff, Int.reduceEq, Nat.reduceEqDiff, M34Fs12]
    refine WP_tree (by kernel_rfl) sta_ext (.quiet 0 (.quiet 1 (.quiet 2 (.quiet 3 (.quiet 4 (.quiet 5 (.quiet 6 (.quiet 7 (.quiet 8 (.quiet 9 (.quiet 10 (.quiet 11 (.quiet 12 (.quiet 13 (.quiet 14 (.keep 15 (.one 16 (.quiet 17 (.one 18 (.fin)))))))))))))))))))) (by kernel_rfl) rfl (by kernel_rfl) ?_
    simp only [he, hb4, b4c, fa, k0, k1, splice, List.drop, List.take, Int.toNat_natCast, coreS, Value.cells, Value.oneCell', Nat.reduceAdd, Nat.reduceSub, Nat.reduceMul, Nat.reduceLeDiff, Int.reduceEq, Nat.reduceEqDiff, drawS, treeS, M34Fs12]
    refine ⟨⟨by omega, by omega⟩, sm, ⟨by omega, by omega⟩, sm, ?_⟩
    refine execT_keep fun hA xA => ?_
    simp only [splice, List.drop, List.take, coreS, Value.cells, Value.oneCell', Nat.reduceAdd, Nat.reduceSub, Nat.reduceMul, Nat.reduceLeDiff, Int.reduceEq, Nat.reduceEqDiff, drawS, treeS, M34Fs12]
    refine ⟨by omega, (Ext.refl _).push _, ?_⟩
    refine execT_one fun hB xB => ?_
    have W1 := xB.get (push_new (h := hA) (o := .cells #[.int .i64 u.s, .int .i64 u.m] 58))
    have xAB : Ext h4 hB := (xA.push _).trans xB
    have OB := O4.ext xAB
    try simp only [splice, List.drop, List.take, coreS, Value.cells, Value.oneCell', Nat.reduceAdd, Nat.reduceSub, Nat.reduceMul, Nat.reduceLeDiff, Int.reduceEq, Nat.reduceEqDiff, drawS, treeS, M34Fs12]
    refine apW (us := [u]) rfl rfl OB (by have := (x4.trans xAB).size; omega) (row_at (vs := [.int .i64 u.s, .int .i64 u.m]) (cs := wsV [u]) (by rfl) W1) rfl (by omega) fun a5 c5 h5 O5 A5 => ?_
    have T5 := (A5.old _ (lt_of_get (xAB.get b4c)) (OwnV.apart OB (xAB.get b4c) (by decide))).trans (xAB.get b4c)
    have R5 := App.rbV A5 OB (Nat.le_refl _) (x4.trans xAB).size
    have x5 : Ext h1 h5 := ((RB.of_ext (x4.trans xAB) (Nat.le_refl _)).trans R5).ext
    try simp only [splice, List.drop, List.take, coreS, Value.cells, Value.oneCell', Nat.reduceAdd, Nat.reduceSub, Nat.reduceMul, Nat.reduceLeDiff, Int.reduceEq, Nat.reduceEqDiff, drawS, treeS, M34Fs12]
    refine execT_one fun hC xC => ?_
    have T6 := xC.get T5
    try simp only [T6, splice, List.drop, List.take, coreS, Value.cells, Value.oneCell', Nat.reduceAdd, Nat.reduceSub, Nat.reduceMul, Nat.reduceLeDiff, Int.reduceEq, Nat.reduceEqDiff, drawS, treeS, M34Fs12]
    refine stK_abs T6 (by simp) fun h6 g6 u6 => ?_
    simp only [splice, List.drop, List.take] at g6
    have O6 := (O5.ext xC).keep (h' := h6) (fun p hp => u6.old _ (OwnV.apart (O5.ext xC) T6 (by decide) p hp))
    have x6 : Ext h1 h6 := u6.ext (x5.trans xC) (by omega)
    try simp only [splice, List.drop, List.take, coreS, Value.cells, Value.oneCell', Nat.reduceAdd, Nat.reduceSub, Nat.reduceMul, Nat.reduceLeDiff, Int.reduceEq, Nat.reduceEqDiff, drawS, treeS, M34Fs12]
    refine execT_fin fun h7 x7 => ?_
    simp only [he, coreS, Value.cells, Value.oneCell', Nat.reduceAdd, Nat.reduceSub, Nat.reduceMul, Nat.reduceLeDiff, Int.reduceEq, Nat.reduceEqDiff, M34Fs12]
    refine ⟨by rw [inK_i64]; omega, roundK_mk (by kernel_rfl) ⟨x6.trans x7, i + 1, by omega, rfl, a5, c5, x7.get g6, ?_⟩ meas⟩
    rw [htk, wsV_append]
    exact O6.ext x7
  obtain rfl : i = n := by omega
  rw [List.take_of_length_le (by omega)] at O4
  have V3 := tr_Vb V
  have e1 := gld_tr V
  have e2 := dysF_tr V
  have e3 := lsN_tr V
  have e4 := chkL_tr V
  have e5 := covE_tr V
  have hsh := sh_tr (ws := ws)
  have hmo := mo_tr (ws := ws)
  have hn3 : i = (ws.map trW).length := by simpa using hn
  obtain ⟨us, hus⟩ : ∃ us, us = ws.map trW := ⟨_, rfl⟩
  rw [← hus] at V3 e1 e2 e3 hsh hmo O4 hn3
  simp only [← hus] at e4 e5
  have hr3 := O4.row
  have hle1 := lsN_le V
  simp only [he, show ¬ ((i : Int) < (i : Int)) by omega, hb4, decide_false, coreS, Value.cells, Value.oneCell', Nat.reduceAdd, Nat.reduceSub, Nat.reduceMul, Nat.reduceLeDiff, Int.reduceEq, Nat.reduceEqDiff, M34Fs12]
  refine CallsH.mono (few37 s m a i c ws h4 (hr.ext y4) hn V) ?_
  rintro v h5 ⟨⟨q5, rfl, _, z5⟩, x5⟩
  simp only [x5.get b4c, coreS, Value.cells, Value.oneCell', Nat.reduceAdd, Nat.reduceSub, Nat.reduceMul, Nat.reduceLeDiff, Int.reduceEq, Nat.reduceEqDiff, M34Fs12]
  refine CallsH.mono (few37 m s a4 i c4 us h5 (hr3.ext x5) hn3 V3) ?_
  rintro v h6 ⟨⟨q6, rfl, _, z6⟩, x6⟩
  have x46 := x5.trans x6
  simp only [x46.get hb4, coreS, Value.cells, Value.oneCell', Nat.reduceAdd, Nat.reduceSub, Nat.reduceMul, Nat.reduceLeDiff, Int.reduceEq, Nat.reduceEqDiff, M34Fs12]
  refine CallsH.mono (best41 s m a i c ws h6 (hr.ext (y4.trans x46)) hn V) ?_
  rintro v h7 ⟨⟨a7, c7, rfl, O7⟩, x7⟩
  have x47 := x46.trans x7
  simp only [x47.get b4c, coreS, Value.cells, Value.oneCell', Nat.reduceAdd, Nat.reduceSub, Nat.reduceMul, Nat.reduceLeDiff, Int.reduceEq, Nat.reduceEqDiff, M34Fs12]
  refine CallsH.mono (best41 m s a4 i c4 us h7 (hr3.ext x47) hn3 V3) ?_
  rintro v h8 ⟨⟨a8, c8, rfl, O8⟩, x8⟩
  have x48 := x47.trans x8
  simp only [x48.get hb4, coreS, Value.cells, Value.oneCell', Nat.reduceAdd, Nat.reduceSub, Nat.reduceMul, Nat.reduceLeDiff, Int.reduceEq, Nat.reduceEqDiff, M34Fs12]
  refine CallsH.mono (loads18 s m a i c ws h8 (hr.ext (y4.trans x48)) hn (by omega)) ?_
  rintro v h9 ⟨L1, x9⟩
  obtain ⟨p1, p2, rfl, _, _, _, l1, l2⟩ := L1.ok s m rfl rfl V
  have x49 := x48.trans x9
  simp only [x49.get b4c, coreS, Value.cells, Value.oneCell', Nat.reduceAdd, Nat.reduceSub, Nat.reduceMul, Nat.reduceLeDiff, Int.reduceEq, Nat.reduceEqDiff, M34Fs12]
  refine CallsH.mono (loads18 m s a4 i c4 us h9 (hr3.ext x49) hn3 (by omega)) ?_
  rintro v hA ⟨L2, xA⟩
  obtain ⟨p3, p4, rfl, _, _, _, l3, l4⟩ := L2.ok m s rfl rfl V3
  have x4A := x49.trans xA
  simp only [x4A.get hb4, coreS, Value.cells, Value.oneCell', Nat.reduceAdd, Nat.reduceSub, Nat.reduceMul, Nat.reduceLeDiff, Int.reduceEq, Nat.reduceEqDiff, M34Fs12]
  refine CallsH.mono (bits42 i x hA (by omega) hx) ?_
  rintro v hB ⟨⟨aB, cB, lB, rfl, OB, upB, ltB⟩, xB⟩
  have x4B := x4A.trans xB
  simp only [x4B.get hb4, coreS, Value.cells, Value.oneCell', Nat.reduceAdd, Nat.reduceSub, Nat.reduceMul, Nat.reduceLeDiff, Int.reduceEq, Nat.reduceEqDiff, M34Fs12]
  refine WP_cut [28, 29, 107, 108, 109, 110, 111, 112, 113, 114] (fun g h' => (∃ a c l, g 28 = .slice a l.length c ∧ IntsV h' a l.length (zsN l) ∧ l.length ≤ 1000000) ∧ (∃ a c l, g 29 = .slice a l.length c ∧ IntsV h' a l.length (zsN l) ∧ l.length ≤ 1000000) ∧ Ext hB h') ?_ ?_
  · refine WP_tree (by kernel_rfl) sta_ext (.quiet 0 (.quiet 1 (.quiet 2 (.quiet 4 (.quiet 5 (.quiet 6 (.keep 3 (.keep 7 (.quiet 8 (.quiet 9 (.fin))))))))))) (by kernel_rfl) rfl (by kernel_rfl) ?_
    simp only [x4B.get hb4, coreS, Value.cells, Value.oneCell', Nat.reduceAdd, Nat.reduceSub, Nat.reduceMul, Nat.reduceLeDiff, Int.reduceEq, Nat.reduceEqDiff, drawS, treeS, M34Fs12]
    refine execT_keep fun hC xC => ?_
    simp only [coreS, Value.cells, Value.oneCell', Nat.reduceAdd, Nat.reduceSub, Nat.reduceMul, Nat.reduceLeDiff, Int.reduceEq, Nat.reduceEqDiff, drawS, treeS, M34Fs12]
    refine CallsH.mono (bits42 s y hC (by omega) hy) ?_
    rintro v hD ⟨⟨aD, cD, lD, rfl, OD, upD, ltD⟩, xD⟩
    refine ⟨xD, ?_⟩
    try simp only [coreS, Value.cells, Value.oneCell', Nat.reduceAdd, Nat.reduceSub, Nat.reduceMul, Nat.reduceLeDiff, Int.reduceEq, Nat.reduceEqDiff, drawS, treeS, M34Fs12]
    refine execT_keep fun hE xE => ?_
    simp only [coreS, Value.cells, Value.oneCell', Nat.reduceAdd, Nat.reduceSub, Nat.reduceMul, Nat.reduceLeDiff, Int.reduceEq, Nat.reduceEqDiff, drawS, treeS, M34Fs12]
    refine CallsH.mono (bits42 m z hE (by omega) hz) ?_
    rintro v hF ⟨⟨aF, cF, lF, rfl, OF, upF, ltF⟩, xF⟩
    refine ⟨xF, ?_⟩
    try simp only [coreS, Value.cells, Value.oneCell', Nat.reduceAdd, Nat.reduceSub, Nat.reduceMul, Nat.reduceLeDiff, Int.reduceEq, Nat.reduceEqDiff, drawS, treeS, M34Fs12]
    refine execT_fin fun hG xG => ?_
    have lenU : ∀ {l : List Nat} {k : Nat}, l.Pairwise (· < ·) → (∀ t ∈ l, t < k) → l.length ≤ k := fun {l k} h1 h2 => by
      have := MB.nodup_le (m := List.range k) (h1.imp fun h => Nat.ne_of_lt h) fun x hx => List.mem_range.2 (h2 x hx)
      rwa [List.length_range] at this
    have ld := lenU upD ltD
    have lf := lenU upF ltF
    try simp only [thenK_normal]
    exact midK_mk (by kernel_rfl) ⟨⟨aD, cD, lD, rfl, ((OD.ints.ext xE).ext xF).ext xG, by omega⟩, ⟨aF, cF, lF, rfl, OF.ints.ext xG, by omega⟩, ((((xC.trans xD).trans xE).trans xF).trans xG)⟩
  rintro g hC ⟨⟨aX, cX, lX, gX, IX, kX⟩, ⟨aY, cY, lY, gY, IY, kY⟩, xC⟩
  have x4C := x4B.trans xC
  simp only [x4C.get hb4, gX, gY, coreS, Value.cells, Value.oneCell', Nat.reduceAdd, Nat.reduceSub, Nat.reduceMul, Nat.reduceLeDiff, Int.reduceEq, Nat.reduceEqDiff, M34Fs12]
  refine CallsH.mono (cover27 s m a i c ws aX lX.length cX (zsN lX) aY lY.length cY (zsN lY) hC (hr.ext (y4.trans x4C)) hn (by omega) IX IY kX kY) ?_
  rintro v hD ⟨rfl, xD⟩
  have x4D := x4C.trans xD
  simp only [x4D.get b4c, gX, gY, coreS, Value.cells, Value.oneCell', Nat.reduceAdd, Nat.reduceSub, Nat.reduceMul, Nat.reduceLeDiff, Int.reduceEq, Nat.reduceEqDiff, M34Fs12]
  refine CallsH.mono (cover27 m s a4 i c4 us aY lY.length cY (zsN lY) aX lX.length cX (zsN lX) hD (hr3.ext x4D) hn3 (by omega) (IY.ext xD) (IX.ext xD) kY kX) ?_
  rintro v hE ⟨rfl, xE⟩
  have x4E := x4D.trans xE
  rw [(e5 _ _).1, (e5 _ _).2]
  rw [e2] at z6
  rw [e3] at O8
  rw [hsh] at l3
  rw [hmo] at l4
  have hd2 := (dysF_ok V).2.1
  have lul : us.length = ws.length := by omega
  rw [lul] at l3 l4
  have blk : ∀ {hh : Eng.Heap} {q k : Nat} {xs : List Int}, hh[q]? = some (.cells (Eng.ints xs).toArray 3) → xs.length = k → IntsV hh (some ⟨q, 0, none⟩) k xs := fun hq hk => by
    have := IntsV.block hq
    rwa [hk] at this
  have xAE := xB.trans (xC.trans (xD.trans xE))
  have x9E := xA.trans xAE
  have x8E := x9.trans x9E
  have x7E := x8.trans x8E
  have x6E := x7.trans x7E
  have x5E := x6.trans x6E
  have I5 := blk (x5E.get z5) (k := ws.length) (by rw [zsN_length, hd2])
  have I6 := blk (x6E.get z6) (k := ws.length) (by rw [zsN_length, hd2])
  have I7 := (O7.ext x7E).ints
  have I8 := (O8.ext x8E).ints
  have J1 := blk (x9E.get l1) (k := s) ldL_length
  have J2 := blk (x9E.get l2) (k := m) ldL_length
  have J3 := blk (xAE.get l3) (k := m) ldL_length
  have J4 := blk (xAE.get l4) (k := s) ldL_length
  have IB := (OB.ext (xC.trans (xD.trans xE))).ints
  have lBl : lB.length ≤ 1000000 := by
    have := MB.nodup_le (m := List.range i) (upB.imp fun h => Nat.ne_of_lt h) fun x hx => List.mem_range.2 (ltB x hx)
    rw [List.length_range] at this
    omega
  have tint : ∀ {a1 a2 : Option Addr} {k c1 c2 : Nat} {xs : List Int}, IntsV hE a1 k xs → IntsV hE a2 k xs → k ≤ 1000000 → ∀ h', Ext hE h' → CallsH Try.prog 24 #[.slice a1 k c1, .slice a2 k c2] h' (fun v h'' => v = .bool true ∧ Ext h' h'') := fun i1 i2 hk h' x' => CallsH.mono (ints24 _ _ _ _ _ _ _ _ h' (i1.ext x') (i2.ext x') hk) fun v h'' q => ⟨by rw [q.1]; simp, by rw [q.2]; exact Ext.refl _⟩
  simp only [e3, lul, coreS, Value.cells, Value.oneCell', Nat.reduceAdd, Nat.reduceSub, Nat.reduceMul, Nat.reduceLeDiff, Int.reduceEq, Nat.reduceEqDiff, M34Fs12]
  refine WP_draw (by kernel_rfl) sta_ext [(0, 0), (1, 0), (2, 0), (3, 0), (4, 0), (5, 0), (6, 0), (7, 0), (8, 0), (9, 0), (10, 0), (11, 0), (12, 0), (13, 0), (14, 0), (15, 0), (16, 0), (17, 0), (18, 0), (19, 0), (20, 0), (21, 0), (22, 0), (23, 0), (24, 0), (25, 0), (26, 0), (27, 0), (28, 0), (29, 0), (30, 0), (31, 0), (32, 0), (33, 0), (34, 0), (35, 0), (36, 0), (37, 0), (38, 0), (39, 0), (40, 0), (41, 0), (42, 0), (43, 0), (44, 0), (45, 0), (46, 0), (47, 0), (48, 0), (49, 0), (50, 0), (51, 0), (52, 0), (53, 0), (54, 0), (55, 0), (56, 0), (57, 0), (58, 0), (59, 0), (60, 0)] (by kernel_rfl) rfl (by kernel_rfl) ?_
  simp only [coreS, Value.cells, Value.oneCell', Nat.reduceAdd, Nat.reduceSub, Nat.reduceMul, Nat.reduceLeDiff, Int.reduceEq, Nat.reduceEqDiff, drawS, M34Fs12]
  refine cQ_ext (.bool true) (fun h' x' => tint I5 I6 (by omega) h' x') ?_
  simp only [coreS, Value.cells, Value.oneCell', Nat.reduceAdd, Nat.reduceSub, Nat.reduceMul, Nat.reduceLeDiff, Int.reduceEq, Nat.reduceEqDiff, drawS, M34Fs12]
  refine cQ_ext (.bool true) (fun h' x' => tint I7 I8 (by omega) h' x') ?_
  simp only [decide_true, coreS, Value.cells, Value.oneCell', Nat.reduceAdd, Nat.reduceSub, Nat.reduceMul, Nat.reduceLeDiff, Int.reduceEq, Nat.reduceEqDiff, drawS, M34Fs12]
  refine cQ_ext (.bool true) (fun h' x' => tint J1 J4 (by omega) h' x') ?_
  simp only [decide_true, coreS, Value.cells, Value.oneCell', Nat.reduceAdd, Nat.reduceSub, Nat.reduceMul, Nat.reduceLeDiff, Int.reduceEq, Nat.reduceEqDiff, drawS, M34Fs12]
  refine cQ_ext (.bool true) (fun h' x' => tint J2 J3 (by omega) h' x') ?_
  simp only [x4E.get hb4, decide_true, coreS, Value.cells, Value.oneCell', Nat.reduceAdd, Nat.reduceSub, Nat.reduceMul, Nat.reduceLeDiff, Int.reduceEq, Nat.reduceEqDiff, drawS, M34Fs12]
  refine cQ_ext (.int .i64 (chkL s m ws (zsN lB))) (fun h' x' => checkList30 s m a i c ws aB _ cB _ h' (hr.ext ((y4.trans x4E).trans x')) hn (by omega) (IB.ext x') lBl) ?_
  simp only [x4E.get b4c, decide_true, coreS, Value.cells, Value.oneCell', Nat.reduceAdd, Nat.reduceSub, Nat.reduceMul, Nat.reduceLeDiff, Int.reduceEq, Nat.reduceEqDiff, drawS, M34Fs12]
  refine cQ_ext (.int .i64 (chkL s m ws (zsN lB))) (fun h' x' => CallsH.mono (checkList30 m s a4 i c4 us aB _ cB _ h' (hr3.ext (x4E.trans x')) hn3 (by omega) (IB.ext x') lBl) fun v h'' q => ⟨by rw [q.1, e4], q.2⟩) ?_
  simp only [decide_true, coreS, Value.cells, Value.oneCell', Nat.reduceAdd, Nat.reduceSub, Nat.reduceMul, Nat.reduceLeDiff, Int.reduceEq, Nat.reduceEqDiff, drawS, M34Fs12]
  refine cQ_ext _ (fun h' x' => works17 h') ?_
  simp only [decide_true, coreS, Value.cells, Value.oneCell', Nat.reduceAdd, Nat.reduceSub, Nat.reduceMul, Nat.reduceLeDiff, Int.reduceEq, Nat.reduceEqDiff, drawS, M34Fs12]
  refine hvK_mk fun hF xF => ?_
  simp only [coreS, Value.cells, Value.oneCell', Nat.reduceAdd, Nat.reduceSub, Nat.reduceMul, Nat.reduceLeDiff, Int.reduceEq, Nat.reduceEqDiff, M34Fs12]
  exact (y4.trans x4E).trans xF
end Go.Proofs.Ytmgkeeefbfefgaa
