/- Walks: all places of a beginning that contradict each other, by the program. -/
import Derived.Test.YtoediaepoddonaaT27
namespace Go.Proofs.Ytoediaepoddonaa
open Go Go.Proofs Go.Eng Go.Run Tab
set_option maxRecDepth 100000
set_option linter.unusedSimpArgs false
set_option linter.unusedVariables false
set_option maxHeartbeats 1000000
/-- What the map of clashes holds. -/
def ClashMap (h : Eng.Heap) (mb n : Nat) (cs : List Nat) : Prop := ∃ es c, MapV kvP h mb es c ∧ ∀ p : Nat × Nat, getA p es = if (p.1 < p.2 ∧ p.2 < cs.length) ∧ clashP n cs p.1 p.2 then some (.int .i64 1) else none
theorem born_eq {es : List PE} (hb : (es.map (·.2.2)).Pairwise (· < ·)) {x y : PE} (hx : x ∈ es) (hy : y ∈ es) (he : x.2.2 = y.2.2) : x = y := by
  induction es with
  | nil => cases hx
  | cons z es ih =>
    rw [List.map_cons, List.pairwise_cons] at hb
    rcases List.mem_cons.1 hx with h1 | h1
    · rcases List.mem_cons.1 hy with h2 | h2
      · rw [h1, h2]
      · have := hb.1 _ (List.mem_map.2 ⟨y, h2, rfl⟩)
        rw [← h1] at this
        omega
    · rcases List.mem_cons.1 hy with h2 | h2
      · have := hb.1 _ (List.mem_map.2 ⟨x, h1, rfl⟩)
        rw [← h2] at this
        omega
      · exact ih hb.2 h1 h2
theorem app111 {h : Eng.Heap} {er : Env} {ty : TypeId} {m0 : Nat} {x y : Operand} {a b : Option Addr} {len cap m c : Nat} {xs ys : List Value} {K : Value → Eng.Heap → Prop} (hx : ev er x = .slice a len cap) (hy : ev er y = .slice b m c) (O : OwnV m0 h 77 2 a len cap xs) (h0h : m0 ≤ h.size) (I : Row h b ys) (hyl : ys.length = m * 2) (h1 : ∀ u ∈ ys, u.oneCell' = true) (hb : len + m ≤ 10000)
    (H : ∀ a' cap' h', OwnV m0 h' 77 2 a' (len + m) cap' (xs ++ ys) → App h h' a a' → K (.slice a' (len + m) cap') h') : opSem Try.prog (.call ⟨.builtin .append, #[x, y], #[111, 111]⟩) ty er h K :=
  append_valsT Try.underlying111 Try.underlying111 inf77 sz77 zero77 (by simp [Value.cells]) hx hy O h0h I hyl h1 (by omega) (by rw [by77]; omega) H
theorem clashes68 (rb n nb cb : Nat) (ab : Option Addr) (xs : List Nat) (h h0 : Eng.Heap) (hn1 : 1 ≤ n) (hn : n ≤ 12) (H : Rnd0 h rb n (List.range n)) (x0 : Ext h0 h) (hrb : h0.size ≤ rb) (hb : begF (List.range n) xs) (hv : IntsV h0 ab nb (zs xs)) (hl : xs.length ≤ 12) :
    CallsH Try.prog 68 #[.pointer (some ⟨rb, 0, none⟩), .slice ab nb cb] h (fun v h' => Ext h0 h' ∧ ∃ mb, v = .map (some mb) ∧ ClashMap h' mb n (codeF (List.range n) xs)) := by
  have hnb := hv.len
  rw [zs_length] at hnb
  have hrs := H.lt
  have hs0 := x0.size
  have hfit := code_fits _ _ hb
  rw [List.length_range] at hfit
  obtain ⟨cs, hcs⟩ : ∃ cs, cs = codeF (List.range n) xs := ⟨_, rfl⟩
  have hcl : cs.length = nb := by rw [hcs, codeF_length]; omega
  rw [← hcs] at hfit ⊢
  refine CallsH_of_exec Try.func68 rfl bod68 ?_
  simp only [Try.ntmps68, Try.results68, coreS, stK_some, splice, Value.cells, Value.oneCell', Nat.reduceAdd, Nat.reduceSub, Nat.reduceMul, Nat.reduceLeDiff, Int.reduceEq, Nat.reduceEqDiff, agg3, agg77, agg85, by3, by77, fo101_0, fo105_0, fo85_0, fo85_1, fps77_0, fps77_1, fps85_0, fps85_1, inf3, inf77, inf85, okf77, okf85, sz3, sz77, sz85, zero77, zero85, Try.underlying22, Try.underlying81, Try.underlying111]
  refine CallsH.mono (code56R rb n nb cb ab xs (h.push (.map #[] 0)) h0 hn1 hn (H.get ?_) (x0.push _) hrb hb hv hl) ?_
  · rw [push_get, if_neg (by omega)]
  rintro v h1 ⟨x1, ch1, ⟨L, R1⟩, b, rfl, hb1, hb2⟩
  rw [← hcs] at hb2
  have M1 : MapV kvP h1 h.size [] 0 := (MapV.empty h).keep (ch1.old _ (by simp) (by omega))
  have hmb1 : h.size < h1.size := by have := ch1.size; simp at this; omega
  have e0 : xs.length = nb := by omega
  rw [e0]
  simp only [coreS, Value.cells, Value.oneCell', Nat.reduceAdd, Nat.reduceSub, Nat.reduceMul, Nat.reduceLeDiff, Int.reduceEq, Nat.reduceEqDiff, agg3, agg77, agg85, by3, by77, fo101_0, fo105_0, fo85_0, fo85_1, fps77_0, fps77_1, fps85_0, fps85_1, inf3, inf77, inf85, okf77, okf85, sz3, sz77, sz85, zero77, zero85, Try.underlying22, Try.underlying81, Try.underlying111]
  have Ic := IntsV.block hb2
  rw [zs_length, hcl] at Ic
  obtain ⟨gone, ga, q1, q2, q3, q4, q5⟩ := R1
  refine WP_loopI [6, 7, 8, 18, 19, 20, 21, 22, 23, 24, 25, 26, 27, 28, 29, 30, 31, 32, 33, 34, 35] (fun g h' => ∃ i : Nat, i ≤ nb ∧ g 18 = .int .i64 i ∧ Ext h1 h' ∧ ∃ a cap, g 6 = .slice a i cap ∧ OwnV h1.size h' 77 2 a i cap (sayV n cs i)) (fun g _ => match g 18 with | .int _ m => nb - m.toNat | _ => 0) ⟨0, by omega, rfl, Ext.refl _, none, 0, rfl, OwnV.nil _ _ _ _⟩ ?_
  rintro g h' ⟨i, hi, hg18, x, a, cap, hg6, O⟩
  simp only [hg18, hg6, coreS, Value.cells, Value.oneCell', Nat.reduceAdd, Nat.reduceSub, Nat.reduceMul, Nat.reduceLeDiff, Int.reduceEq, Nat.reduceEqDiff, agg3, agg77, agg85, by3, by77, fo101_0, fo105_0, fo85_0, fo85_1, fps77_0, fps77_1, fps85_0, fps85_1, inf3, inf77, inf85, okf77, okf85, sz3, sz77, sz85, zero77, zero85, Try.underlying22, Try.underlying81, Try.underlying111]
  refine ⟨fun hlt => ?_, fun hge => ?_⟩
  · have hil : i < nb := by omega
    have hiz : i < (zs cs).length := by rw [zs_length]; omega
    have hcell := ints_getElem? (zs cs) i hiz
    rw [zs_get] at hcell
    have hci := fits_get _ _ _ hfit (show i < cs.length by omega)
    have e1 : (n : Int) - (i : Int) = ((n - i : Nat) : Int) := by omega
    simp only [x.get hb2, hcell, x.get q3, rcel_n, e1, splice, coreS, Value.cells, Value.oneCell', Nat.reduceAdd, Nat.reduceSub, Nat.reduceMul, Nat.reduceLeDiff, Int.reduceEq, Nat.reduceEqDiff, agg3, agg77, agg85, by3, by77, fo101_0, fo105_0, fo85_0, fo85_1, fps77_0, fps77_1, fps85_0, fps85_1, inf3, inf77, inf85, okf77, okf85, sz3, sz77, sz85, zero77, zero85, Try.underlying22, Try.underlying81, Try.underlying111]
    repeat (refine And.intro (by first | omega | (rw [inK_i64]; omega) | rfl | assumption) ?_)
    have x1' : Ext h1 (h'.push (.cells #[.int .i64 (cs.getD i 0 : Nat), .int .i64 (n - i : Nat)] 77)) := x.push _
    refine app111 (ys := [.int .i64 (cs.getD i 0 : Nat), .int .i64 (n - i : Nat)]) rfl rfl (O.ext ((Ext.refl h').push _)) (by have := x.size; simp; omega) (Row.block push_new) rfl (by simp [Value.oneCell']) (by omega) fun a' cap' h2 O2 A => ?_
    have x2 : Ext h1 h2 := A.extV (O.ext ((Ext.refl h').push _)) x1' (Nat.le_refl _)
    simp only [coreS, Value.cells, Value.oneCell', Nat.reduceAdd, Nat.reduceSub, Nat.reduceMul, Nat.reduceLeDiff, Int.reduceEq, Nat.reduceEqDiff, agg3, agg77, agg85, by3, by77, fo101_0, fo105_0, fo85_0, fo85_1, fps77_0, fps77_1, fps85_0, fps85_1, inf3, inf77, inf85, okf77, okf85, sz3, sz77, sz85, zero77, zero85, Try.underlying22, Try.underlying81, Try.underlying111]
    refine ⟨by rw [inK_i64]; omega, roundK_mk (by kernel_rfl) ⟨i + 1, by omega, rfl, x2, a', cap', rfl, by rw [sayV_succ]; exact O2⟩ ?_⟩
    show nb - ((i : Int) + 1).toNat < nb - (i : Int).toNat
    omega
  · obtain rfl : i = nb := by omega
    have M2 := M1.ext x
    have hrow := O.row
    have hab : ∀ p, a = some p → p.block ≠ h.size := fun p hp => by have := (O.lt hp).2; omega
    have x02 := x1.trans x
    have hs2 := x.size
    refine WP_loopI [9, 10, 38, 39, 40, 41, 42, 43, 44, 45, 46, 47, 48, 49, 50] (fun g h2 => ∃ j : Nat, j ≤ i ∧ g 38 = .int .i64 j ∧ Chg h' h2 h.size ∧ MapV kvP h2 h.size (mkE (pairsA j)) (pairsA j).length) (fun g _ => match g 38 with | .int _ m => i - m.toNat | _ => 0) ⟨0, by omega, rfl, Chg.of_ext (Ext.refl _) _, M2⟩ ?_
    rintro g2 h2 ⟨j, hj, hg38, c2, M3⟩
    simp only [hg38, coreS, Value.cells, Value.oneCell', Nat.reduceAdd, Nat.reduceSub, Nat.reduceMul, Nat.reduceLeDiff, Int.reduceEq, Nat.reduceEqDiff, agg3, agg77, agg85, by3, by77, fo101_0, fo105_0, fo85_0, fo85_1, fps77_0, fps77_1, fps85_0, fps85_1, inf3, inf77, inf85, okf77, okf85, sz3, sz77, sz85, zero77, zero85, Try.underlying22, Try.underlying81, Try.underlying111]
    refine ⟨fun hlt2 => ?_, fun hge2 => ?_⟩
    · refine WP_loopI [10, 42, 43, 44, 45, 46, 47, 48, 49] (fun g h2 => ∃ k : Nat, k ≤ j ∧ g 42 = .int .i64 k ∧ Chg h' h2 h.size ∧ MapV kvP h2 h.size (mkE (pairsB j k)) (pairsB j k).length) (fun g _ => match g 42 with | .int _ m => j - m.toNat | _ => 0) ⟨0, by omega, rfl, c2, by rw [pairsB_zero]; exact M3⟩ ?_
      rintro g3 h3 ⟨k, hk, hg42, c3, M4⟩
      simp only [hg42, coreS, Value.cells, Value.oneCell', Nat.reduceAdd, Nat.reduceSub, Nat.reduceMul, Nat.reduceLeDiff, Int.reduceEq, Nat.reduceEqDiff, agg3, agg77, agg85, by3, by77, fo101_0, fo105_0, fo85_0, fo85_1, fps77_0, fps77_1, fps85_0, fps85_1, inf3, inf77, inf85, okf77, okf85, sz3, sz77, sz85, zero77, zero85, Try.underlying22, Try.underlying81, Try.underlying111]
      refine ⟨fun hlt3 => ?_, fun hge3 => ?_⟩
      · simp only [splice, coreS, Value.cells, Value.oneCell', Nat.reduceAdd, Nat.reduceSub, Nat.reduceMul, Nat.reduceLeDiff, Int.reduceEq, Nat.reduceEqDiff, agg3, agg77, agg85, by3, by77, fo101_0, fo105_0, fo85_0, fo85_1, fps77_0, fps77_1, fps85_0, fps85_1, inf3, inf77, inf85, okf77, okf85, sz3, sz77, sz85, zero77, zero85, Try.underlying22, Try.underlying81, Try.underlying111]
        refine map_putT Try.underlying81 keysP M4 (a := (k, j)) (v := .int .i64 1) (by rfl) (by rfl) (by rfl) fun h4 M5 u5 => ?_
        have hp := mkE_put (ps := pairsB j k) (p := (k, j)) (by rw [pairsB_mem]; simp)
        rw [hp.1, hp.2, ← pairsB_succ] at M5
        simp only [coreS, Value.cells, Value.oneCell', Nat.reduceAdd, Nat.reduceSub, Nat.reduceMul, Nat.reduceLeDiff, Int.reduceEq, Nat.reduceEqDiff, agg3, agg77, agg85, by3, by77, fo101_0, fo105_0, fo85_0, fo85_1, fps77_0, fps77_1, fps85_0, fps85_1, inf3, inf77, inf85, okf77, okf85, sz3, sz77, sz85, zero77, zero85, Try.underlying22, Try.underlying81, Try.underlying111]
        refine ⟨by rw [inK_i64]; omega, roundK_mk (by kernel_rfl) ⟨k + 1, by omega, rfl, c3.upd u5, M5⟩ ?_⟩
        show j - ((k : Int) + 1).toNat < j - (k : Int).toNat
        omega
      · obtain rfl : k = j := by omega
        refine ⟨by rw [inK_i64]; omega, roundK_mk (by kernel_rfl) ⟨k + 1, by omega, rfl, c3, by rw [pairsA_succ]; exact M4⟩ ?_⟩
        show i - ((k : Int) + 1).toNat < i - (k : Int).toNat
        omega
    · obtain rfl : j = i := by omega
      have O2 : OwnV h1.size h2 77 2 a j cap (sayV n cs j) := O.keep fun p hp => c2.old _ (O.lt hp).1 (hab p hp)
      have x2 : Ext h0 h2 := Chg.fresh x02 c2 (by omega)
      obtain ⟨E0, hE0⟩ : ∃ E0, E0 = mkE (pairsA j) := ⟨_, rfl⟩
      obtain ⟨C, hC⟩ : ∃ C, C = (pairsA j).length := ⟨_, rfl⟩
      rw [← hE0, ← hC] at M3
      have hk0 : (E0.map (·.1)).Nodup := by rw [hE0, mkE_keys, ← pairsB_zero]; exact pairsB_nodup _ _
      have hmb2 : h.size < h2.size := lt_of_get M3.obj
      refine map_rangeT Try.underlying81 M3 (by rfl) ?_
      simp only [coreS, Value.cells, Value.oneCell', Nat.reduceAdd, Nat.reduceSub, Nat.reduceMul, Nat.reduceLeDiff, Int.reduceEq, Nat.reduceEqDiff, agg3, agg77, agg85, by3, by77, fo101_0, fo105_0, fo85_0, fo85_1, fps77_0, fps77_1, fps85_0, fps85_1, inf3, inf77, inf85, okf77, okf85, sz3, sz77, sz85, zero77, zero85, Try.underlying22, Try.underlying81, Try.underlying111]
      refine WP_loopI [11, 12, 53, 54, 55, 56, 57, 58, 59, 60, 61, 62, 63, 64, 65, 66, 67, 68, 69, 70, 71] (fun g h3 => Chg h2 h3 h.size ∧ ∃ seen es c0, h3[h2.size]? = some (.mapIter (some h.size) C seen c0) ∧ C ≤ c0 ∧ MapV kvP h3 h.size es C ∧ es.Sublist E0 ∧ (∀ x ∈ E0, clashP n cs x.1.1 x.1.2 → x ∈ es) ∧ (∀ x ∈ es, seen.contains x.2.2 = true → clashP n cs x.1.1 x.1.2)) (fun _ h3 => leftN h2.size h.size h3) ?_ ?_
      · exact ⟨Chg.of_ext ((Ext.refl _).push _) _, #[], E0, C, push_new, Nat.le_refl _, M3.ext ((Ext.refl _).push _), List.Sublist.refl _, fun x hx _ => hx, fun x hx hs => by simp at hs⟩
      rintro g3 h3 ⟨c3, seen, es, c0, hr, hc0, M4, hsub, hin, hseen⟩
      have hμ := leftN_eq M4 hr
      have hr3 := lt_of_get hr
      simp only [coreS, Value.cells, Value.oneCell', Nat.reduceAdd, Nat.reduceSub, Nat.reduceMul, Nat.reduceLeDiff, Int.reduceEq, Nat.reduceEqDiff, agg3, agg77, agg85, by3, by77, fo101_0, fo105_0, fo85_0, fo85_1, fps77_0, fps77_1, fps85_0, fps85_1, inf3, inf77, inf85, okf77, okf85, sz3, sz77, sz85, zero77, zero85, Try.underlying22, Try.underlying81, Try.underlying111]
      refine map_nextT M4 hr M4.lt hc0 (by rfl) ?_ ?_
      · intro hall
        simp only [coreS, Value.cells, Value.oneCell', Nat.reduceAdd, Nat.reduceSub, Nat.reduceMul, Nat.reduceLeDiff, Int.reduceEq, Nat.reduceEqDiff, agg3, agg77, agg85, by3, by77, fo101_0, fo105_0, fo85_0, fo85_1, fps77_0, fps77_1, fps85_0, fps85_1, inf3, inf77, inf85, okf77, okf85, sz3, sz77, sz85, zero77, zero85, Try.underlying22, Try.underlying81, Try.underlying111]
        refine ⟨Chg.fresh x2 c3 (by omega), h.size, rfl, es, C, M4, fun p => ?_⟩
        have hkes : (es.map (·.1)).Nodup := hk0.sublist (hsub.map _)
        by_cases hp : (p.1 < p.2 ∧ p.2 < cs.length) ∧ clashP n cs p.1 p.2
        · rw [if_pos hp]
          have h1p : p ∈ E0.map (·.1) := by rw [hE0, mkE_keys, pairsA_mem]; omega
          obtain ⟨x, hx, hxp⟩ := List.mem_map.1 h1p
          subst hxp
          rw [getA_mem hkes (hin x hx hp.2) rfl]
          rw [hE0] at hx
          rw [mkE_val hx]
        · rw [if_neg hp]
          refine (getA_not fun x hx he => hp ?_).1
          subst he
          have h2p : x.1 ∈ E0.map (·.1) := List.mem_map.2 ⟨x, hsub.subset hx, rfl⟩
          rw [hE0, mkE_keys, pairsA_mem] at h2p
          exact ⟨by omega, hseen x hx (hall x hx)⟩
      · intro e he hes h4 hr4 u4
        simp only [coreS, Value.cells, Value.oneCell', Nat.reduceAdd, Nat.reduceSub, Nat.reduceMul, Nat.reduceLeDiff, Int.reduceEq, Nat.reduceEqDiff, agg3, agg77, agg85, by3, by77, fo101_0, fo105_0, fo85_0, fo85_1, fps77_0, fps77_1, fps85_0, fps85_1, inf3, inf77, inf85, okf77, okf85, sz3, sz77, sz85, zero77, zero85, Try.underlying22, Try.underlying81, Try.underlying111]
        have M5 : MapV kvP h4 h.size es C := M4.keep (u4.old _ (by omega))
        simp only [opW_entry]
        refine map_entryT M5 he hr4 (by rfl) ?_
        obtain ⟨⟨p1, p2⟩, ev, eb⟩ := e
        have hpr := hsub.subset he
        have h2p : (p1, p2) ∈ E0.map (·.1) := List.mem_map.2 ⟨_, hpr, rfl⟩
        rw [hE0, mkE_keys, pairsA_mem] at h2p
        simp only [kvP, coreS, Value.cells, Value.oneCell', Nat.reduceAdd, Nat.reduceSub, Nat.reduceMul, Nat.reduceLeDiff, Int.reduceEq, Nat.reduceEqDiff, agg3, agg77, agg85, by3, by77, fo101_0, fo105_0, fo85_0, fo85_1, fps77_0, fps77_1, fps85_0, fps85_1, inf3, inf77, inf85, okf77, okf85, sz3, sz77, sz85, zero77, zero85, Try.underlying22, Try.underlying81, Try.underlying111]
        refine stK_abs push_new (by simp) fun h5 g5 u5 => ?_
        have s3 := c3.size
        have s4 := u4.size
        have s5 := u5.size
        rw [push_size] at s5
        have O5 : OwnV h1.size h5 77 2 a j cap (sayV n cs j) := O2.keep fun p hp => by
          have h1p := (O2.lt hp).1
          rw [u5.old _ (by omega), push_get, if_neg (by omega), u4.old _ (by omega), c3.old _ h1p (hab p hp)]
        have c5 : Chg h2 h5 h.size := ((c3.upd_new u4 (Nat.le_refl _)).trans (Chg.of_ext ((Ext.refl h4).push (.cells #[.int .i64 0, .int .i64 0] 85)) h.size)).upd_new u5 (by omega)
        have hr5 : h5[h2.size]? = some (.mapIter (some h.size) C (seen.push eb) C) := u5.get (push_old hr4) (by omega)
        have M6 : MapV kvP h5 h.size es C := (M5.ext ((Ext.refl h4).push (.cells #[.int .i64 0, .int .i64 0] 85))).keep (u5.old _ (by omega))
        have hc1 : cellsH h5 (eltP a (p1 * 2)) 2 = some [.int .i64 (cs.getD p1 0 : Nat), .int .i64 (n - p1 : Nat)] := by
          rw [← sayV_get n cs j p1 (by omega)]
          exact O5.row.cells (by rw [sayV_length]; omega) (by omega)
        have hc2 : ∀ h6, Ext h5 h6 → cellsH h6 (eltP a (p2 * 2)) 2 = some [.int .i64 (cs.getD p2 0 : Nat), .int .i64 (n - p2 : Nat)] := fun h6 x6 => by
          rw [← sayV_get n cs j p2 (by omega)]
          exact (O5.row.ext x6).cells (by rw [sayV_length]; omega) (by omega)
        have hsm : a.isSome = true := O5.row.isSome (by rw [sayV_length]; omega)
        have hcp1 := fits_get _ _ _ hfit (show p1 < cs.length by omega)
        have hcp2 := fits_get _ _ _ hfit (show p2 < cs.length by omega)
        simp only [splice, g5, hc1, hc2 _ (Ext.refl _), coreS, Value.cells, Value.oneCell', Nat.reduceAdd, Nat.reduceSub, Nat.reduceMul, Nat.reduceLeDiff, Int.reduceEq, Nat.reduceEqDiff, agg3, agg77, agg85, by3, by77, fo101_0, fo105_0, fo85_0, fo85_1, fps77_0, fps77_1, fps85_0, fps85_1, inf3, inf77, inf85, okf77, okf85, sz3, sz77, sz85, zero77, zero85, Try.underlying22, Try.underlying81, Try.underlying111]
        refine ⟨by omega, hsm, by omega, hsm, ?_⟩
        refine CallsH.mono (fits88 _ _ _ _ h5 (by omega)) ?_
        rintro v h6 ⟨rfl, x6⟩
        have M7 := M6.ext x6
        have hr6 := x6.get hr5
        have c6 := c5.trans (Chg.of_ext x6 h.size)
        have hnod : (es.map (·.1)).Nodup := hk0.sublist (hsub.map _)
        have hbn : ∀ x ∈ es, x.2.2 = eb → x = ((p1, p2), ev, eb) := fun x hx hxe => born_eq M4.born hx he hxe
        have hpush : ∀ w : Nat, (seen.push eb).contains w = (seen.contains w || decide (w = eb)) := fun w => by
          simp [Array.contains_push, eq_comm]
        have hdec : (es.filter fun x => !(seen.push eb).contains x.2.2).length < (es.filter fun x => !seen.contains x.2.2).length := by
          refine filter_lt (fun x hx => ?_) he ?_ ?_
          · rw [hpush]; simp; exact fun h _ => h
          · simpa using hes
          · simp [hpush]
        by_cases hcp : clashP n cs p1 p2
        · have hd : decide (cs.getD p1 0 % Nat.gcd (n - p1) (n - p2) = cs.getD p2 0 % Nat.gcd (n - p1) (n - p2)) = false := by simpa [clashP] using hcp
          simp only [hd, coreS, Value.cells, Value.oneCell', Nat.reduceAdd, Nat.reduceSub, Nat.reduceMul, Nat.reduceLeDiff, Int.reduceEq, Nat.reduceEqDiff, agg3, agg77, agg85, by3, by77, fo101_0, fo105_0, fo85_0, fo85_1, fps77_0, fps77_1, fps85_0, fps85_1, inf3, inf77, inf85, okf77, okf85, sz3, sz77, sz85, zero77, zero85, Try.underlying22, Try.underlying81, Try.underlying111]
          refine roundK_mk (by kernel_rfl) ⟨c6, seen.push eb, es, C, hr6, Nat.le_refl _, M7, hsub, hin, fun x hx hxs => ?_⟩ ?_
          · rw [hpush, Bool.or_eq_true, decide_eq_true_eq] at hxs
            rcases hxs with hxs | hxs
            · exact hseen x hx hxs
            · rw [hbn x hx hxs]; exact hcp
          · rw [leftN_eq M7 hr6, hμ]
            exact hdec
        · have hd : decide (cs.getD p1 0 % Nat.gcd (n - p1) (n - p2) = cs.getD p2 0 % Nat.gcd (n - p1) (n - p2)) = true := by simpa [clashP] using hcp
          simp only [hd, x6.get g5, splice, coreS, Value.cells, Value.oneCell', Nat.reduceAdd, Nat.reduceSub, Nat.reduceMul, Nat.reduceLeDiff, Int.reduceEq, Nat.reduceEqDiff, agg3, agg77, agg85, by3, by77, fo101_0, fo105_0, fo85_0, fo85_1, fps77_0, fps77_1, fps85_0, fps85_1, inf3, inf77, inf85, okf77, okf85, sz3, sz77, sz85, zero77, zero85, Try.underlying22, Try.underlying81, Try.underlying111]
          refine map_delT Try.underlying81 keysP M7 (a := (p1, p2)) (by rfl) (by rfl) fun h7 M8 u7 => ?_
          simp only [coreS, Value.cells, Value.oneCell', Nat.reduceAdd, Nat.reduceSub, Nat.reduceMul, Nat.reduceLeDiff, Int.reduceEq, Nat.reduceEqDiff, agg3, agg77, agg85, by3, by77, fo101_0, fo105_0, fo85_0, fo85_1, fps77_0, fps77_1, fps85_0, fps85_1, inf3, inf77, inf85, okf77, okf85, sz3, sz77, sz85, zero77, zero85, Try.underlying22, Try.underlying81, Try.underlying111]
          have hr7 : h7[h2.size]? = some (.mapIter (some h.size) C (seen.push eb) C) := u7.get hr6 (by omega)
          refine roundK_mk (by kernel_rfl) ⟨c6.upd u7, seen.push eb, _, C, hr7, Nat.le_refl _, M8, del_sub.trans hsub, fun x hx hxc => ?_, fun x hx hxs => ?_⟩ ?_
          · refine (delA_mem hnod).2 ⟨hin x hx hxc, fun hxe => hcp ?_⟩
            rw [hxe] at hxc
            exact hxc
          · obtain ⟨hx1, hx2⟩ := (delA_mem hnod).1 hx
            rw [hpush, Bool.or_eq_true, decide_eq_true_eq] at hxs
            rcases hxs with hxs | hxs
            · exact hseen x hx1 hxs
            · exact absurd (by rw [hbn x hx1 hxs]) hx2
          · rw [leftN_eq M8 hr7, hμ]
            refine Nat.lt_of_le_of_lt ?_ hdec
            exact (del_sub.filter _).length_le
end Go.Proofs.Ytoediaepoddonaa
