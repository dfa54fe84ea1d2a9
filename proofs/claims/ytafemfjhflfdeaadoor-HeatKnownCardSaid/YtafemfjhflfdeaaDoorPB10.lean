/- Texts joined by pack.py: lemmas for YtafemfjhflfdeaaDoorKnown. No condition. -/
import Derived.Test.YtafemfjhflfdeaaDoorPB9
set_option linter.unusedSimpArgs false
set_option linter.unusedVariables false
set_option linter.defProp false
section
namespace Go.Proofs.YtafemfjhflfdeaaDoor
open Go Go.Proofs Go.Eng Go.Run Tab
set_option maxRecDepth 100000
set_option linter.unusedSimpArgs false
set_option linter.unusedVariables false
set_option linter.defProp false
set_option maxHeartbeats 4000000
set_option linter.defProp false
def H26Fs93 := (And.intro (And.intro (And.intro (And.intro @agg22 @agg3) (And.intro @agg97 @fo112_0)) (And.intro (And.intro @fo24_0 @inf22) (And.intro @inf3 @inf97))) (And.intro (And.intro (And.intro @sz22 @sz3) (And.intro @sz97 @zero3)) (And.intro (And.intro @zero97 @Tryd.underlying3) (And.intro @Tryd.underlying22 @Tryd.underlying97))))
def farI (i : Nat) : List Int := List.replicate i (OV.far : Int) ++ List.replicate (16 - i) 0
theorem farI_length {i : Nat} (h : i ≤ 16) : (farI i).length = 16 := by simp [farI]; omega
theorem farI_set {i : Nat} (h : i < 16) : (farI i).set i (OV.far : Int) = farI (i + 1) := by
  unfold farI
  rw [List.set_append_right _ _ (by simp), List.length_replicate, Nat.sub_self, show 16 - i = (16 - (i + 1)) + 1 by omega, List.replicate_succ, List.set_cons_zero, List.replicate_succ', List.append_assoc]
  rfl
theorem farI_pad {n : Nat} (h : n ≤ 16) : farI 16 = pad (List.replicate n OV.far) := by
  simp only [farI, pad, List.length_replicate, Nat.sub_self, List.replicate_zero, List.append_nil, List.replicate_append_replicate, List.map_replicate]
  congr 1
  omega
def nxK (m : MV) (v : List Nat) (i k : Nat) : List Nat := if k ≤ 1 then m.ov.cstK v i else (m.ov.cstK v i).set (m.ov.c i) (min ((m.ov.cstK v i).getD (m.ov.c i) 0) (v.getD i 0))
theorem nxK_length (m : MV) (v : List Nat) (i k : Nat) : (nxK m v i k).length = m.casts.length := by
  unfold nxK
  split
  · exact OV.cstK_length _ _
  · rw [List.length_set]; exact OV.cstK_length _ _
theorem nxK_end (m : MV) (v : List Nat) (i : Nat) : nxK m v i (stepsX m i).length = m.ov.cstK v (i + 1) := by
  rw [stepsX_length, OV.cstK_succ, OV.cs1, nxK]
  cases hc : m.ov.can (i, i) <;> simp
theorem cstK_far {o : OV} (ok : o.ok) (v : List Nat) : ∀ k, k ≤ o.n → ∀ j, j < o.n → (o.cstK v k).getD j 0 ≤ OV.far
  | 0, _, j, hj => by simp [OV.cstK, List.getD_eq_getElem?_getD, hj]
  | k + 1, hk, j, hj => by
    rw [OV.cstK_succ]
    exact Nat.le_trans (OV.cs1_le ok (OV.cstK_length v k) (by omega) j) (cstK_far ok v k (by omega) j hj)
theorem relaxed93 (m : MV) (gd : m.Good) (hn16 : m.casts.length ≤ 16) (b : Nat) (v : List Nat) (hv : v.length = m.casts.length) (hb : ∀ j, j < m.casts.length → v.getD j 0 ≤ OV.far) (h : Eng.Heap) (hm : m.ok h) (ho : Oven h b m) :
    CallsH Tryd.prog 93 #[.pointer (some ⟨b, 0, none⟩), hts v] h (fun r h' => r = hts (m.ov.cool (m.ov.cst v)) ∧ Ext h h') := by
  have ho' : h[b]? = some (.cells #[.slice m.a m.casts.length m.ca, .slice m.b m.waits.length m.cb, .int .i64 m.lo, .int .i64 m.hi] 112) := ho
  have hcl := hm.cl
  (refine CallsH_of_exec Tryd.func93 rfl bod93 ?_; simp only [Tryd.ntmps93, Tryd.results93, coreS, stK_some, splice, Value.cells, Value.oneCell', Nat.reduceAdd, Nat.reduceSub, Nat.reduceMul, Nat.reduceLeDiff, Int.reduceEq, Nat.reduceEqDiff, H26Fs93])
  have x0 : Ext h (((h.push (.cells (Eng.ints (pad v)).toArray 97)).push (.cells (Eng.ints (List.replicate 16 0)).toArray 97)).push (.cells (Eng.ints (List.replicate 16 0)).toArray 97)) := (((Ext.refl h).push _).push _).push _
  refine WP_loopI [6, 10, 11, 12, 13, 14, 15] (fun g h' => ∃ i : Nat, i ≤ 16 ∧ g 10 = .int .i64 i ∧ h'[h.size]? = some (.cells (Eng.ints (pad v)).toArray 97) ∧ h'[h.size + 1]? = some (.cells (Eng.ints (List.replicate 16 0)).toArray 97) ∧ h'[h.size + 2]? = some (.cells (Eng.ints (farI i)).toArray 97) ∧ h'.size = h.size + 3 ∧ Ext h h') (fun g _ => match g 10 with | .int _ q => 16 - q.toNat | _ => 0) ⟨0, by omega, rfl, push_old pn0, push_old pn1, by rw [Array.getElem?_push, if_pos (by simp)]; rfl, by simp, x0⟩ ?_
  rintro g h1 ⟨i, hi, hg, k0, k1, k2, hs1, y1⟩
  by_cases hlt : i < 16
  · have hlt2 : (i : Int) < 16 := by omega
    simp only [hg, hlt2, decide_true, k2, coreS, Value.cells, Value.oneCell', Nat.reduceAdd, Nat.reduceSub, Nat.reduceMul, Nat.reduceLeDiff, Int.reduceEq, Nat.reduceEqDiff, H26Fs93]
    refine ⟨⟨by omega, by omega⟩, ?_⟩
    refine stK_int k2 (by rw [farI_length hi]; omega) fun h2 g2 u2 => ?_
    have e2 : (farI i).set i 1048576 = farI (i + 1) := farI_set hlt
    rw [e2] at g2
    simp only [coreS, Value.cells, Value.oneCell', Nat.reduceAdd, Nat.reduceSub, Nat.reduceMul, Nat.reduceLeDiff, Int.reduceEq, Nat.reduceEqDiff, H26Fs93]
    refine ⟨by rw [inK_i64]; omega, roundK_mk (by kernel_rfl) ⟨i + 1, by omega, rfl, u2.get k0 (by omega), u2.get k1 (by omega), g2, by rw [u2.size]; exact hs1, u2.ext y1 (by omega)⟩ ?_⟩
    show 16 - ((i : Int) + 1).toNat < 16 - (i : Int).toNat
    omega
  · have hlt2 : ¬ (i : Int) < 16 := by omega
    obtain rfl : i = 16 := by omega
    rw [farI_pad hn16] at k2
    simp only [hg, hlt2, decide_false, y1.get ho', coreS, Value.cells, Value.oneCell', Nat.reduceAdd, Nat.reduceSub, Nat.reduceMul, Nat.reduceLeDiff, Int.reduceEq, Nat.reduceEqDiff, H26Fs93]
    refine WP_loopD [7, 8, 9, 22, 23, 24, 25, 26, 27, 30, 31, 32, 33, 34, 35, 36, 37, 38, 39, 40, 41] (fun g d h' => ∃ i : Nat, i ≤ m.casts.length ∧ g 22 = .int .i64 i ∧ Ext h h' ∧ Marks (h.size + 3) h'.size h' d ∧ h.size + 3 ≤ h'.size ∧ h'[h.size]? = some (.cells (Eng.ints (pad v)).toArray 97) ∧ h'[h.size + 1]? = some (.cells (Eng.ints (List.replicate 16 0)).toArray 97) ∧ h'[h.size + 2]? = some (.cells (Eng.ints (pad (m.ov.cstK v i))).toArray 97)) (fun g _ => match g 22 with | .int _ q => m.casts.length - q.toNat | _ => 0) ⟨0, by omega, rfl, y1, Marks.nil _ _ _, by omega, k0, k1, k2⟩ ?_
    clear k0 k1 k2 hs1 y1
    rintro g dC hC ⟨i, hi, hg, yC, mC, hsC, k0, k1, k2⟩
    by_cases hlt : i < m.casts.length
    · have hlt3 : (i : Int) < m.casts.length := by omega
      simp only [hg, hlt3, decide_true, splice, coreS, Value.cells, Value.oneCell', Nat.reduceAdd, Nat.reduceSub, Nat.reduceMul, Nat.reduceLeDiff, Int.reduceEq, Nat.reduceEqDiff, H26Fs93]
      refine stK_abs (push_new (h := hC)) (by simp) fun h3 g3 u3 => ?_
      simp only [splice] at g3
      have y3 : Ext h h3 := u3.ext (yC.push _) (by have := yC.size; omega)
      have hs3 : h3.size = hC.size + 1 := by rw [u3.size]; simp
      simp only [g3, coreS, Value.cells, Value.oneCell', Nat.reduceAdd, Nat.reduceSub, Nat.reduceMul, Nat.reduceLeDiff, Int.reduceEq, Nat.reduceEqDiff, H26Fs93]
      refine CallsH.mono (steps70 b i h3) ?_
      rintro v4 h4 ⟨rfl, hh4⟩
      have xs4 : Ext h3 h4 := by rw [hh4]; exact ((Ext.refl h3).push _).push _
      have xC4 : Ext hC h4 := (u3.ext ((Ext.refl hC).push _) (Nat.le_refl _)).trans xs4
      have f0 : h4[hC.size]? = some (.cells #[.int .i64 (i : Int)] 3) := xs4.get g3
      have f1 : h4[hC.size + 1]? = some (.cells #[.pointer (some ⟨b, 0, none⟩)] 79) := by rw [hh4, ← hs3]; exact pn0
      have f2 : h4[hC.size + 2]? = some (.cells #[.int .i64 (i : Int)] 3) := by rw [hh4]; have := pn1 (h := h3) (o := .cells #[.pointer (some ⟨b, 0, none⟩)] 79) (o' := .cells #[.int .i64 (i : Int)] 3); rwa [hs3] at this
      have x4 : Ext h h4 := y3.trans xs4
      have s4 : h4.size = hC.size + 3 := by rw [hh4]; simp; omega
      have j0 := xC4.get k0
      have j1 := xC4.get k1
      have j2 := xC4.get k2
      have mk4 := mC.ext xC4
      clear hh4 g3 xs4 u3 k0 k1 k2
      simp only [hs3, coreS, Value.cells, Value.oneCell', Nat.reduceAdd, Nat.reduceSub, Nat.reduceMul, Nat.reduceLeDiff, Int.reduceEq, Nat.reduceEqDiff, H26Fs93]
      refine WP_rangeE (xss := stepsX m i) rfl (steps_seq m gd i hlt (hC.size + 1) (hC.size + 1 + 1) b) (fun k h' => Ext h h' ∧ h'[hC.size]? = some (.cells #[.int .i64 (i : Int)] 3) ∧ h'[hC.size + 1]? = some (.cells #[.pointer (some ⟨b, 0, none⟩)] 79) ∧ h'[hC.size + 2]? = some (.cells #[.int .i64 (i : Int)] 3) ∧ h'[hC.size + 3]? = some (.deferred (some [])) ∧ hC.size + 5 ≤ h'.size ∧ Marks (h.size + 3) hC.size h' dC ∧ h'[h.size]? = some (.cells (Eng.ints (pad v)).toArray 97) ∧ h'[h.size + 1]? = some (.cells (Eng.ints (List.replicate 16 0)).toArray 97) ∧ h'[h.size + 2]? = some (.cells (Eng.ints (pad (nxK m v i k))).toArray 97)) (fun j h' => False) ?_ ?_ ?_ ?_ ?_ ?_ ?_ ?_ ?_
      · intro vs hvs
        obtain ⟨k, hk⟩ := List.getElem?_of_mem hvs
        obtain ⟨to, cs, rfl, _⟩ := stepsX_get gd hlt hk
        rfl
      · rintro k h' ⟨z0, z1, z2, z3, z4, z5, zM, z6, z7, z8⟩
        exact ⟨hm.ext z0, z0.get ho', z2, z3⟩
      · rintro k h5 h6 ⟨z0, z1, z2, z3, z4, z5, zM, z6, z7, z8⟩ x
        exact ⟨z0.trans x, x.get z1, x.get z2, x.get z3, x.get z4, Nat.le_trans z5 x.size, zM.ext x, x.get z6, x.get z7, x.get z8⟩
      · rintro k h5 h6 ⟨z0, z1, z2, z3, z4, z5, zM, z6, z7, z8⟩ u
        rw [s4] at u
        exact ⟨u.ext z0 (by omega), u.get z1 (by omega), u.get z2 (by omega), u.get z3 (by omega), u.get z4 (by omega), by rw [u.size]; exact z5, zM.upd u (by omega), u.get z6 (by omega), u.get z7 (by omega), u.get z8 (by omega)⟩
      · exact fun j h1 h2 H _ => H
      · intro h' x z1 z2
        rw [s4] at z1 z2
        exact ⟨x4.trans x, x.get f0, x.get f1, x.get f2, z1, by omega, mk4.ext x, x.get j0, x.get j1, x.get j2⟩
      · rintro k h5 vs o hvs ⟨z0, z1, z2, z3, z4, z5, zM, z6, z7, z8⟩ ho5
        rw [s4] at ho5 ⊢
        obtain ⟨to, cs, rfl, hto, hcase⟩ := stepsX_get gd hlt hvs
        simp only [asgI_normal, stK_some, splice, coreS, Value.cells, Value.oneCell', Nat.reduceAdd, Nat.reduceSub, Nat.reduceMul, Nat.reduceLeDiff, Int.reduceEq, Nat.reduceEqDiff, scopeK_normal, scopeK_ret, scopeK_exit, callV_yield, binds_cons, binds_nil, H26Fs93]
        refine ⟨ho5, fun h6 o2 u6 ho2 => ?_⟩
        have qx := u6.ext z0 (by omega)
        have q1 := u6.get z1 (by omega)
        have q2 := u6.get z2 (by omega)
        have q3 := u6.get z3 (by omega)
        have q4 := u6.get z4 (by omega)
        have qM := zM.upd u6 (by omega)
        have q6 := u6.get z6 (by omega)
        have q7 := u6.get z7 (by omega)
        have q8 := u6.get z8 (by omega)
        have qs := u6.size
        clear z0 z1 z2 z3 z4 zM z6 z7 z8 ho5
        rcases hcase with ⟨rfl, rfl, rfl⟩ | ⟨rfl, hcan, rfl, rfl⟩
        · simp only [endI_normal, coreS, Value.cells, Value.oneCell', Nat.reduceAdd, Nat.reduceSub, Nat.reduceMul, Nat.reduceLeDiff, Int.reduceEq, Nat.reduceEqDiff, scopeK_normal, scopeK_ret, scopeK_exit, callV_yield, binds_cons, binds_nil, H26Fs93]
          refine ⟨fun h01 => absurd h01 (by decide), fun _ => ?_⟩
          exact ⟨ho2, qx, q1, q2, q3, q4, by omega, qM, q6, q7, q8⟩
        · simp only [endI_normal, coreS, Value.cells, Value.oneCell', Nat.reduceAdd, Nat.reduceSub, Nat.reduceMul, Nat.reduceLeDiff, Int.reduceEq, Nat.reduceEqDiff, scopeK_normal, scopeK_ret, scopeK_exit, callV_yield, binds_cons, binds_nil, H26Fs93]
          refine ⟨fun _ => ?_, fun hne => absurd rfl hne⟩
          have hnl := nxK_length m v i 1
          have hnx2 : nxK m v i 2 = (nxK m v i 1).set (m.ov.c i) (min ((nxK m v i 1).getD (m.ov.c i) 0) (v.getD i 0)) := rfl
          have d1 := pad_cell (v := nxK m v i 1) (by omega) (i := m.ov.c i) (by omega)
          have d2 := pad_cell (v := v) (by omega) (i := i) (by omega)
          refine WP_draw (by kernel_rfl) sta_eq [(0, 0), (1, 0), (2, 0), (3, 0), (4, 0), (5, 0), (6, 0), (7, 0), (8, 0), (9, 1)] (by kernel_rfl) rfl (by kernel_rfl) ?_
          simp only [q1, q6, q8, d1, d2, Int.toNat_natCast, hvK_eq, coreS, Value.cells, Value.oneCell', Nat.reduceAdd, Nat.reduceSub, Nat.reduceMul, Nat.reduceLeDiff, Int.reduceEq, Nat.reduceEqDiff, scopeK_normal, scopeK_ret, scopeK_exit, callV_yield, binds_cons, binds_nil, drawS, H26Fs93]
          have hcn := gd.ok.cl i hlt
          have hcn2 : m.ov.c i < m.casts.length := hcn
          refine ⟨⟨by omega, by omega⟩, ⟨by omega, by omega⟩, ⟨by omega, by omega⟩, ?_⟩
          have emin : (if ((v.getD i 0 : Nat) : Int) < (((nxK m v i 1).getD (m.ov.c i) 0 : Nat) : Int) then ((v.getD i 0 : Nat) : Int) else (((nxK m v i 1).getD (m.ov.c i) 0 : Nat) : Int)) = ((min ((nxK m v i 1).getD (m.ov.c i) 0) (v.getD i 0) : Nat) : Int) := by split <;> omega
          rw [emin]
          refine stK_int q8 (by rw [pad_length (by omega)]; omega) fun h7 g7 u7 => ?_
          rw [pad_set (by omega), ← hnx2] at g7
          simp only [hvK_eq, endI_normal, coreS, Value.cells, Value.oneCell', Nat.reduceAdd, Nat.reduceSub, Nat.reduceMul, Nat.reduceLeDiff, Int.reduceEq, Nat.reduceEqDiff, scopeK_normal, scopeK_ret, scopeK_exit, callV_yield, binds_cons, binds_nil, drawS, H26Fs93]
          exact ⟨u7.get ho2 (by omega), u7.ext qx (by omega), u7.get q1 (by omega), u7.get q2 (by omega), u7.get q3 (by omega), u7.get q4 (by omega), by rw [u7.size]; omega, qM.upd u7 (by omega), u7.get q6 (by omega), u7.get q7 (by omega), g7⟩
      · rintro h5 ⟨z0, z1, z2, z3, z4, z5, zM, z6, z7, z8⟩
        rw [s4]
        rw [nxK_end] at z8
        simp only [coreS, Value.cells, Value.oneCell', Nat.reduceAdd, Nat.reduceSub, Nat.reduceMul, Nat.reduceLeDiff, Int.reduceEq, Nat.reduceEqDiff, scopeK_normal, scopeK_ret, scopeK_exit, callV_yield, binds_cons, binds_nil, H26Fs93]
        refine ⟨by rw [inK_i64]; omega, roundD_mk (by kernel_rfl) ⟨i + 1, by omega, rfl, z0, zM.cons z4 (by omega) (by omega) (by omega), by omega, z6, z7, z8⟩ ?_⟩
        show m.casts.length - ((i : Int) + 1).toNat < m.casts.length - (i : Int).toNat
        omega
      · exact fun j h' H => H.elim
    · have hlt3 : ¬ (i : Int) < m.casts.length := by omega
      obtain rfl : i = m.casts.length := by omega
      have hl : (m.ov.cst v).length = m.casts.length := OV.cstK_length _ _
      have e9 : m.ov.cstK v m.casts.length = m.ov.cst v := rfl
      rw [e9] at k2
      simp only [hg, hlt3, decide_false, k2, pad_ces (v := m.ov.cst v) (by omega), coreS, Value.cells, Value.oneCell', Nat.reduceAdd, Nat.reduceSub, Nat.reduceMul, Nat.reduceLeDiff, Int.reduceEq, Nat.reduceEqDiff, H26Fs93]
      refine CallsH.mono (cooled92 m gd hn16 b (m.ov.cst v) hl (fun j hj => cstK_far gd.ok v _ (Nat.le_refl _) j hj) hC (hm.ext yC) (yC.get ho')) ?_
      rintro r h9 ⟨rfl, x9⟩
      have hcl9 : (m.ov.cool (m.ov.cst v)).length = m.casts.length := by rw [OV.cool_length]; exact hl
      simp only [coreS, Value.cells, Value.oneCell', Nat.reduceAdd, Nat.reduceSub, Nat.reduceMul, Nat.reduceLeDiff, Int.reduceEq, Nat.reduceEqDiff, H26Fs93]
      refine st_hts (cur := Eng.ints (List.replicate 16 0)) (pad_length (by omega)) (by rfl) (x9.get k1) fun h10 g10 u10 => ?_
      simp only [coreS, Value.cells, Value.oneCell', Nat.reduceAdd, Nat.reduceSub, Nat.reduceMul, Nat.reduceLeDiff, Int.reduceEq, Nat.reduceEqDiff, H26Fs93]
      refine fin_marks ((mC.ext x9).upd u10 (by omega)) fun h11 hs11 hk11 => ?_
      have r11 : h11[h.size + 1]? = some (.cells (Eng.ints (pad (m.ov.cool (m.ov.cst v)))).toArray 97) := by rw [hk11 _ (by omega)]; exact g10
      have yy : Ext h h10 := u10.ext (yC.trans x9) (by omega)
      simp only [r11, pad_ces (v := m.ov.cool (m.ov.cst v)) (by omega), coreS, Value.cells, Value.oneCell', Nat.reduceAdd, Nat.reduceSub, Nat.reduceMul, Nat.reduceLeDiff, Int.reduceEq, Nat.reduceEqDiff, H26Fs93]
      exact ⟨by rw [hs11]; exact yy.size, fun q hq => by rw [hk11 q (by omega)]; exact yy.old q hq⟩
end Go.Proofs.YtafemfjhflfdeaaDoor
end
section
namespace Go.Proofs.YtafemfjhflfdeaaDoor
open Go Go.Proofs Go.Eng Go.Run Tab
set_option maxRecDepth 100000
set_option linter.unusedSimpArgs false
set_option linter.unusedVariables false
set_option linter.defProp false
set_option maxHeartbeats 4000000
set_option linter.defProp false
def H27Fs94 := (And.intro (And.intro (And.intro @agg22 (And.intro @agg3 @by3)) (And.intro @inf22 (And.intro @inf3 @sz22))) (And.intro (And.intro @sz3 (And.intro @zero22 @zero3)) (And.intro @zero97 (And.intro @Tryd.underlying22 @Tryd.underlying97))))
structure Rc (o : OV) (i : Nat) (S : List Bool) (L : List Nat) : Prop where
  len : S.length = o.n
  mem : ∀ j, S.getD j false = true ↔ j ∈ L
  nd : L.Nodup
  lt : ∀ j ∈ L, j < o.n
  at0 : i ∈ L
  least : ∀ T : Nat → Prop, o.Shut T → T i → ∀ j ∈ L, T j
theorem Rc.start {o : OV} {i : Nat} (hi : i < o.n) : Rc o i (o.rone i) [i] where
  len := by simp [OV.rone]
  mem j := by rw [OV.rone_at hi, List.mem_singleton]
  nd := by simp
  lt j hj := by rw [List.mem_singleton.1 hj]; exact hi
  at0 := List.mem_singleton.2 rfl
  least T _ hT j hj := by rw [List.mem_singleton.1 hj]; exact hT
theorem Rc.add {o : OV} {i x to : Nat} {S : List Bool} {L : List Nat} (R : Rc o i S L) (hx : x ∈ L) (hs : to = o.w x ∨ (o.can (x, x) = true ∧ to = o.c x)) (hto : to < o.n) (hS : S.getD to false = false) : Rc o i (S.set to true) (L ++ [to]) where
  len := by rw [List.length_set]; exact R.len
  mem j := by
    rw [OV.getB_set (by rw [R.len]; exact hto), List.mem_append, List.mem_singleton]
    split
    · rename_i h; simp [h]
    · rename_i h; simp only [h, or_false]; exact R.mem j
  nd := by
    rw [List.nodup_append]
    refine ⟨R.nd, by simp, fun a ha b hb => ?_⟩
    rw [List.mem_singleton.1 hb]
    rintro rfl
    rw [(R.mem a).2 ha] at hS
    cases hS
  lt j hj := by
    rcases List.mem_append.1 hj with h | h
    · exact R.lt j h
    · rw [List.mem_singleton.1 h]; exact hto
  at0 := List.mem_append_left _ R.at0
  least T hT h0 j hj := by
    rcases List.mem_append.1 hj with h | h
    · exact R.least T hT h0 j h
    · rw [List.mem_singleton.1 h]
      have h1 := hT x (R.lt x hx) (R.least T hT h0 x hx)
      rcases hs with rfl | ⟨hc, rfl⟩
      · exact h1.1
      · exact h1.2 hc
theorem Rc.size {o : OV} {i : Nat} {S : List Bool} {L : List Nat} (R : Rc o i S L) : L.length ≤ o.n := OV.nodup_bound o.n L R.lt R.nd
theorem Rc.fin {o : OV} {i : Nat} {S : List Bool} {L : List Nat} (R : Rc o i S L) (H : ∀ x ∈ L, S.getD (o.w x) false = true ∧ (o.can (x, x) = true → S.getD (o.c x) false = true)) : o.IsR i S :=
  ⟨R.len, (R.mem i).2 R.at0, fun h hh hS => H h ((R.mem h).1 hS), fun T hT h0 j hj => R.least T hT h0 j ((R.mem j).1 hj)⟩
def seenI (S : List Bool) : List Int := (S.map fun b => if b then 1 else 0) ++ List.replicate (16 - S.length) 0
theorem seenI_length {S : List Bool} (h : S.length ≤ 16) : (seenI S).length = 16 := by simp [seenI]; omega
theorem seenI_at {S : List Bool} {i : Nat} (hi : i < S.length) : (seenI S).getD i 0 = if S.getD i false then 1 else 0 := by
  rw [seenI, List.getD_eq_getElem?_getD, List.getElem?_append_left (by simpa using hi)]
  simp [List.getD_eq_getElem?_getD, List.getElem?_eq_getElem hi]
theorem seenI_cell {S : List Bool} (h : S.length ≤ 16) {i : Nat} (hi : i < S.length) : (Eng.ints (seenI S))[i]? = some (.int .i64 (if S.getD i false then 1 else 0)) := by
  rw [ints_getElem? _ _ (by rw [seenI_length h]; omega), seenI_at hi]
theorem seenI_set {S : List Bool} {i : Nat} (hi : i < S.length) : (seenI S).set i 1 = seenI (S.set i true) := by
  simp only [seenI, List.length_set]
  rw [List.set_append_left _ _ (by simpa using hi), List.map_set]
  rfl
theorem seenI_none {n i : Nat} (hn : n ≤ 16) (hi : i < n) : (List.replicate 16 (0 : Int)).set i 1 = seenI ((List.replicate n false).set i true) := by
  rw [← seenI_set (by simpa using hi)]
  congr 1
  simp only [seenI, List.map_replicate, List.length_replicate, Bool.false_eq_true, if_false, List.replicate_append_replicate]
  congr 1
  omega
def zn (v : List Nat) : List Int := v.map fun j : Nat => (j : Int)
theorem App.oth {h h' : Eng.Heap} {a a' : Option Addr} {el : TypeId} {len cap : Nat} {xs : List Int} {m c : Nat} {o : Obj} (A : App h h' a a') (O : OwnI m h el a len cap xs) (hc : h[c]? = some o) (hne : ∀ cur, o ≠ .cells cur el (0, 0)) : h'[c]? = some o :=
  (A.old c (lt_of_get hc) fun p hp hpc => by
    rcases O.ok with ⟨h1, _⟩ | ⟨g, cur, h1, h2, h3, _⟩
    · rw [h1] at hp; cases hp
    · rw [h1] at hp; cases hp
      subst hpc
      rw [hc] at h3
      exact hne cur (Option.some.inj h3)).trans hc
theorem OwnI.updO {h h' : Eng.Heap} {a : Option Addr} {el : TypeId} {len cap : Nat} {xs : List Int} {m c : Nat} {o : Obj} (O : OwnI m h el a len cap xs) (u : Upd h h' c) (hc : h[c]? = some o) (hne : ∀ cur, o ≠ .cells cur el (0, 0)) : OwnI m h' el a len cap xs :=
  O.keep fun p hp => u.old _ fun hpc => by
    rcases O.ok with ⟨h1, _⟩ | ⟨g, cur, h1, h2, h3, _⟩
    · rw [h1] at hp; cases hp
    · rw [h1] at hp; cases hp
      subst hpc
      rw [hc] at h3
      exact hne cur (Option.some.inj h3)
theorem Marks.app {h h' : Eng.Heap} {a a' : Option Addr} {el : TypeId} {len cap : Nat} {xs : List Int} {m m0 m1 : Nat} {d : List Deferred} (A : App h h' a a') (O : OwnI m h el a len cap xs) (M : Marks m0 m1 h d) : Marks m0 m1 h' d := by
  obtain ⟨rs, h1, h2, h3⟩ := M
  exact ⟨rs, h1, h2, fun r hr => ⟨(h3 r hr).1, (h3 r hr).2.1, App.oth A O (h3 r hr).2.2 fun cur hh => by cases hh⟩⟩
theorem reaches94 (m : MV) (gd : m.Good) (hn16 : m.casts.length ≤ 16) (b i0 t0 : Nat) (hi0 : i0 < m.casts.length) (ht0 : t0 < m.casts.length) (h : Eng.Heap) (hm : m.ok h) (ho : Oven h b m) :
    CallsH Tryd.prog 94 #[.pointer (some ⟨b, 0, none⟩), .int .i64 i0, .int .i64 t0] h (fun r h' => r = .bool ((m.ov.rch i0).getD t0 false) ∧ Ext h h') := by
  have ho' : h[b]? = some (.cells #[.slice m.a m.casts.length m.ca, .slice m.b m.waits.length m.cb, .int .i64 m.lo, .int .i64 m.hi] 112) := ho
  have hcl := hm.cl
  (refine CallsH_of_exec Tryd.func94 rfl bod94 ?_; simp only [Tryd.ntmps94, Tryd.results94, coreS, stK_some, splice, Value.cells, Value.oneCell', Nat.reduceAdd, Nat.reduceSub, Nat.reduceMul, Nat.reduceLeDiff, Int.reduceEq, Nat.reduceEqDiff, H27Fs94])
  obtain ⟨H2, hH2⟩ : ∃ H2, H2 = updH ((h.push (.cells #[.int .i64 (i0 : Int)] 3)).push (.cells #[.slice none 0 0] 22)) (h.size + 1) [.slice (some ⟨h.size, 0, none⟩) 1 1] 22 := ⟨_, rfl⟩
  have g2 : H2[h.size + 1]? = some (.cells #[.slice (some ⟨h.size, 0, none⟩) 1 1] 22) := by rw [hH2]; exact upd_same (c := [.slice (some ⟨h.size, 0, none⟩) 1 1]) (by simp)
  have u2 : Upd ((h.push (.cells #[.int .i64 (i0 : Int)] 3)).push (.cells #[.slice none 0 0] 22)) H2 (h.size + 1) := by rw [hH2]; exact Upd.updH
  have hs2 : H2.size = h.size + 2 := by rw [u2.size]; simp
  have g0 := u2.get (pn0 (h := h)) (by omega)
  have x2 : Ext h H2 := u2.ext (((Ext.refl h).push _).push _) (by omega)
  rw [← hH2]
  clear hH2 u2
  simp only [hs2]
  have hin : m.ov.n = m.casts.length := rfl
  have eS : Eng.splice (Eng.ints (List.replicate 16 0)) i0 [.int .i64 1] = Eng.ints (seenI (m.ov.rone i0)) := by
    rw [splice_one _ _ _ (by rw [Eng.ints_length, List.length_replicate]; omega), Eng.ints_set, seenI_none hn16 hi0]; rfl
  have g3 := push_new (h := H2) (o := .cells (Eng.splice (Eng.ints (List.replicate 16 0)) i0 [.int .i64 1]).toArray 97)
  rw [hs2] at g3
  refine ⟨⟨by omega, by omega⟩, by omega, ?_⟩
  refine WP_loopD [9, 10, 15, 16, 17, 18, 19, 20, 21, 22, 23, 24, 25, 26, 29, 30, 31, 32, 33, 34, 35, 36, 37, 38] (fun g d h' => ∃ (L : List Nat) (S : List Bool) (k cap : Nat) (a : Option Addr), g 9 = .int .i64 k ∧ k ≤ L.length ∧ Ext h h' ∧ h.size + 3 ≤ h'.size ∧ Marks (h.size + 3) h'.size h' d ∧ h'[h.size + 1]? = some (.cells #[.slice a L.length cap] 22) ∧ h'[h.size + 2]? = some (.cells (Eng.ints (seenI S)).toArray 97) ∧ OwnI h.size h' 3 a L.length cap (zn L) ∧ Rc m.ov i0 S L ∧ ∀ q, q < k → S.getD (m.ov.w (L.getD q 0)) false = true ∧ (m.ov.can (L.getD q 0, L.getD q 0) = true → S.getD (m.ov.c (L.getD q 0)) false = true)) (fun g _ => match g 9 with | .int _ q => m.casts.length - q.toNat | _ => 0) ⟨[i0], m.ov.rone i0, 0, 1, some ⟨h.size, 0, none⟩, rfl, by omega, x2.push _, by rw [push_size]; omega, Marks.nil _ _ _, push_old g2, g3.trans (by rw [eS]), ⟨rfl, .inr ⟨h.size, _, rfl, Nat.le_refl _, push_old g0, Nat.le_refl _, Nat.le_refl _, rfl⟩⟩, Rc.start hi0, fun q hq => by omega⟩ ?_
  clear g0 g2 g3 x2 hs2 eS
  rintro g dC hC ⟨L, S, k, cap, a, hg, hk, yC, hsC, mC, k1, k2, O, R, hdone⟩
  have hLn := R.size
  have hSn := R.len
  by_cases hlt : k < L.length
  · have hlt2 : (k : Int) < L.length := by omega
    have kc := (O.ints).cell (j := k) (by simpa [zn] using hlt)
    have sa := O.ints.isSome (by simp [zn]; omega)
    have exk : (zn L).getD k 0 = ((L.getD k 0 : Nat) : Int) := by simp [zn, List.getD_eq_getElem?_getD, List.getElem?_eq_getElem hlt]
    rw [exk] at kc
    simp only [hg, k1, kc, hlt2, decide_true, Int.toNat_natCast, coreS, Value.cells, Value.oneCell', Nat.reduceAdd, Nat.reduceSub, Nat.reduceMul, Nat.reduceLeDiff, Int.reduceEq, Nat.reduceEqDiff, H27Fs94]
    refine ⟨by omega, sa, ?_⟩
    obtain ⟨x, hx⟩ : ∃ x, x = L.getD k 0 := ⟨_, rfl⟩
    have hxL : x ∈ L := by rw [hx, List.getD_eq_getElem?_getD, List.getElem?_eq_getElem hlt, Option.getD_some]; exact List.getElem_mem hlt
    have hxn : x < m.casts.length := R.lt x hxL
    rw [← hx]
    refine CallsH.mono (steps70 b x hC) ?_
    rintro v4 h4 ⟨rfl, hh4⟩
    have xC4 : Ext hC h4 := by rw [hh4]; exact ((Ext.refl hC).push _).push _
    have f1 : h4[hC.size]? = some (.cells #[.pointer (some ⟨b, 0, none⟩)] 79) := by rw [hh4]; exact pn0
    have f2 : h4[hC.size + 1]? = some (.cells #[.int .i64 (x : Int)] 3) := by rw [hh4]; exact pn1
    have x4 : Ext h h4 := yC.trans xC4
    have s4 : h4.size = hC.size + 2 := by rw [hh4]; simp
    have j1 := xC4.get k1
    have j2 := xC4.get k2
    have mk4 := mC.ext xC4
    have O4 := O.ext xC4
    have hab : ∀ p, a = some p → p.block < hC.size ∨ hC.size + 4 ≤ p.block := fun p hp => .inl (O.lt hp).1
    clear hh4 k1 k2
    simp only [coreS, Value.cells, Value.oneCell', Nat.reduceAdd, Nat.reduceSub, Nat.reduceMul, Nat.reduceLeDiff, Int.reduceEq, Nat.reduceEqDiff, H27Fs94]
    refine WP_rangeE (xss := stepsX m x) rfl (steps_seq m gd x hxn hC.size (hC.size + 1) b) (fun q h' => ∃ (L' : List Nat) (S' : List Bool) (cap' : Nat) (a' : Option Addr), Ext h h' ∧ h'[hC.size]? = some (.cells #[.pointer (some ⟨b, 0, none⟩)] 79) ∧ h'[hC.size + 1]? = some (.cells #[.int .i64 (x : Int)] 3) ∧ h'[hC.size + 2]? = some (.deferred (some [])) ∧ hC.size + 4 ≤ h'.size ∧ Marks (h.size + 3) hC.size h' dC ∧ h'[h.size + 1]? = some (.cells #[.slice a' L'.length cap'] 22) ∧ h'[h.size + 2]? = some (.cells (Eng.ints (seenI S')).toArray 97) ∧ OwnI h.size h' 3 a' L'.length cap' (zn L') ∧ Rc m.ov i0 S' L' ∧ (∃ M, L' = L ++ M) ∧ (∀ j, S.getD j false = true → S'.getD j false = true) ∧ (∀ p, a' = some p → p.block < hC.size ∨ hC.size + 4 ≤ p.block) ∧ ∀ j, j < q → ∀ to cs : Nat, (stepsX m x)[j]? = some [.int .i64 (to : Int), .int .i64 (cs : Int)] → S'.getD to false = true) (fun j h' => False) ?_ ?_ ?_ ?_ ?_ ?_ ?_ ?_ ?_
    · intro vs hvs
      obtain ⟨k, hk⟩ := List.getElem?_of_mem hvs
      obtain ⟨to, cs, rfl, _⟩ := stepsX_get gd hxn hk
      rfl
    · rintro q h' ⟨L', S', cap', a', z0, z1, z2, z3, z4, zM, z5, z6, zO, zR, zL, zS, zA, zD⟩
      exact ⟨hm.ext z0, z0.get ho', z1, z2⟩
    · rintro q h5 h6 ⟨L', S', cap', a', z0, z1, z2, z3, z4, zM, z5, z6, zO, zR, zL, zS, zA, zD⟩ x
      exact ⟨L', S', cap', a', z0.trans x, x.get z1, x.get z2, x.get z3, Nat.le_trans z4 x.size, zM.ext x, x.get z5, x.get z6, zO.ext x, zR, zL, zS, zA, zD⟩
    · rintro q h5 h6 ⟨L', S', cap', a', z0, z1, z2, z3, z4, zM, z5, z6, zO, zR, zL, zS, zA, zD⟩ u
      rw [s4] at u
      exact ⟨L', S', cap', a', u.ext z0 (by omega), u.get z1 (by omega), u.get z2 (by omega), u.get z3 (by omega), by rw [u.size]; exact z4, zM.upd u (by omega), u.get z5 (by omega), u.get z6 (by omega), zO.keep fun p hp => u.old _ (by have := zA p hp; omega), zR, zL, zS, zA, zD⟩
    · exact fun j h1 h2 H _ => H
    · intro h' x z1 z2
      rw [s4] at z1 z2
      exact ⟨L, S, cap, a, x4.trans x, x.get f1, x.get f2, z1, by omega, mk4.ext x, x.get j1, x.get j2, O4.ext x, R, ⟨[], by simp⟩, fun j hj => hj, hab, fun j hj => by omega⟩
    · rintro q h5 vs o hvs ⟨L', S', cap', a', z0, z1, z2, z3, z4, zM, z5, z6, zO, zR, zL, zS, zA, zD⟩ ho5
      rw [s4] at ho5 ⊢
      obtain ⟨to, cs, rfl, hto, hcase⟩ := stepsX_get gd hxn hvs
      have hst : to = m.ov.w x ∨ (m.ov.can (x, x) = true ∧ to = m.ov.c x) := by
        rcases hcase with ⟨_, h, _⟩ | ⟨_, h1, h2, _⟩
        · exact .inl h
        · exact .inr ⟨h1, h2⟩
      have hSn' := zR.len
      have hLn' := zR.size
      simp only [asgI_normal, stK_some, splice, coreS, Value.cells, Value.oneCell', Nat.reduceAdd, Nat.reduceSub, Nat.reduceMul, Nat.reduceLeDiff, Int.reduceEq, Nat.reduceEqDiff, scopeK_normal, scopeK_ret, scopeK_exit, callV_yield, binds_cons, binds_nil, H27Fs94]
      refine ⟨ho5, fun h6 o2 u6 ho2 => ?_⟩
      have qx := u6.ext z0 (by omega)
      have q1 := u6.get z1 (by omega)
      have q2 := u6.get z2 (by omega)
      have q3 := u6.get z3 (by omega)
      have qM := zM.upd u6 (by omega)
      have q5 := u6.get z5 (by omega)
      have q6 := u6.get z6 (by omega)
      have qO := zO.keep (h' := h6) fun p hp => u6.old _ (by have := zA p hp; omega)
      have qs := u6.size
      clear z0 z1 z2 z3 zM z5 z6 zO ho5
      have d1 := seenI_cell (S := S') (by omega) (i := to) (by omega)
      have next : ∀ (T : List Bool), (∀ j, S'.getD j false = true → T.getD j false = true) → T.getD to false = true → ∀ j, j < q + 1 → ∀ to' cs' : Nat, (stepsX m x)[j]? = some [.int .i64 (to' : Int), .int .i64 (cs' : Int)] → T.getD to' false = true := by
        intro T hT hTt j hj to' cs' hj2
        by_cases hjk : j = q
        · subst hjk
          rw [hvs] at hj2
          simp only [Option.some.injEq, List.cons.injEq, Value.int.injEq, true_and, and_true, Int.ofNat_inj] at hj2
          rw [← hj2.1]; exact hTt
        · exact hT _ (zD j (by omega) to' cs' hj2)
      have hxL' : x ∈ L' := by obtain ⟨M, hM⟩ := zL; rw [hM]; exact List.mem_append_left _ hxL
      cases hSt : S'.getD to false with
      | true =>
        simp only [hSt, if_true] at d1
        simp only [q6, d1, endI_normal, Int.toNat_natCast, coreS, Value.cells, Value.oneCell', Nat.reduceAdd, Nat.reduceSub, Nat.reduceMul, Nat.reduceLeDiff, Int.reduceEq, Nat.reduceEqDiff, scopeK_normal, scopeK_ret, scopeK_exit, callV_yield, binds_cons, binds_nil, H27Fs94]
        exact ⟨⟨by omega, by omega⟩, ho2, L', S', cap', a', qx, q1, q2, q3, by omega, qM, q5, rfl, qO, zR, zL, zS, zA, next S' (fun j h => h) hSt⟩
      | false =>
        simp only [hSt, Bool.false_eq_true, if_false] at d1
        simp only [q6, d1, endI_normal, Int.toNat_natCast, coreS, Value.cells, Value.oneCell', Nat.reduceAdd, Nat.reduceSub, Nat.reduceMul, Nat.reduceLeDiff, Int.reduceEq, Nat.reduceEqDiff, scopeK_normal, scopeK_ret, scopeK_exit, callV_yield, binds_cons, binds_nil, H27Fs94]
        refine ⟨⟨by omega, by omega⟩, ⟨by omega, by omega⟩, ?_⟩
        refine stK_int q6 (by rw [seenI_length (by omega)]; omega) fun h7 g7 u7 => ?_
        rw [seenI_set (by omega)] at g7
        have r1 := u7.get q1 (by omega)
        have r2 := u7.get q2 (by omega)
        have r3 := u7.get q3 (by omega)
        have rM := qM.upd u7 (by omega)
        have r5 := u7.get q5 (by omega)
        have rO := OwnI.updO qO u7 q6 (fun cur hh => by cases hh)
        have rx := u7.ext qx (by omega)
        have ro := u7.get ho2 (by omega)
        have rs := u7.size
        have R2 := zR.add hxL' hst hto hSt
        simp only [r5, splice, coreS, Value.cells, Value.oneCell', Nat.reduceAdd, Nat.reduceSub, Nat.reduceMul, Nat.reduceLeDiff, Int.reduceEq, Nat.reduceEqDiff, scopeK_normal, scopeK_ret, scopeK_exit, callV_yield, binds_cons, binds_nil, H27Fs94]
        have rO7 := rO.ext ((Ext.refl h7).push (.cells #[.int .i64 (to : Int)] 3))
        refine app22 (m0 := h.size) (len := L'.length) (m := 1) (xs := zn L') (ys := [(to : Int)]) (by rfl) (by rfl) rO7 (by rw [push_size]; have := rx.size; omega) (intsV_one push_new) (by omega) fun a8 c8 h8 O8 A8 => ?_
        have ezn : zn L' ++ [(to : Int)] = zn (L' ++ [to]) := by simp [zn]
        rw [ezn] at O8
        have t1 := App.oth A8 rO7 (push_old r1) (fun cur hh => by cases hh)
        have t2 : h8[hC.size + 1]? = some (.cells #[.int .i64 (x : Int)] 3) := (A8.old _ (by rw [push_size]; omega) fun p hp => by have := zA p hp; omega).trans (push_old r2)
        have t3 := App.oth A8 rO7 (push_old r3) (fun cur hh => by cases hh)
        have tM := Marks.app A8 rO7 (rM.ext ((Ext.refl h7).push (.cells #[.int .i64 (to : Int)] 3)))
        have t5 := App.oth A8 rO7 (push_old r5) (fun cur hh => by cases hh)
        have t6 := App.oth A8 rO7 (push_old g7) (fun cur hh => by cases hh)
        have tx : Ext h h8 := A8.extN rO7 (rx.push _) (Nat.le_refl _)
        have ts := A8.size
        rw [push_size] at ts
        have tA : ∀ p, a8 = some p → p.block < hC.size ∨ hC.size + 4 ≤ p.block := fun p hp => by
          rcases A8.to p hp with ⟨q0, hq0, hqb⟩ | hge
          · have := zA q0 hq0; omega
          · rw [push_size] at hge; omega
        have hll : (L' ++ [to]).length = L'.length + 1 := by simp
        simp only [t5, splice, coreS, Value.cells, Value.oneCell', Nat.reduceAdd, Nat.reduceSub, Nat.reduceMul, Nat.reduceLeDiff, Int.reduceEq, Nat.reduceEqDiff, scopeK_normal, scopeK_ret, scopeK_exit, callV_yield, binds_cons, binds_nil, H27Fs94]
        have to2 : h8[hC.size + 2 + 1]? = some o2 := (A8.old _ (by rw [push_size]; omega) fun p hp => by have := zA p hp; omega).trans (push_old ro)
        refine stK_abs t5 (by simp) fun h9 g9 u9 => ?_
        simp only [splice] at g9
        have O9 := OwnI.updO O8 u9 t5 (fun cur hh => by cases hh)
        rw [← hll] at O9
        simp only [splice, endI_normal, coreS, Value.cells, Value.oneCell', Nat.reduceAdd, Nat.reduceSub, Nat.reduceMul, Nat.reduceLeDiff, Int.reduceEq, Nat.reduceEqDiff, scopeK_normal, scopeK_ret, scopeK_exit, callV_yield, binds_cons, binds_nil, H27Fs94]
        refine ⟨u9.get to2 (by omega), L' ++ [to], S'.set to true, c8, a8, u9.ext tx (by omega), u9.get t1 (by omega), u9.get t2 (by omega), u9.get t3 (by omega), by rw [u9.size]; omega, tM.upd u9 (by omega), ?_, u9.get t6 (by omega), O9, R2, ?_, ?_, tA, next _ ?_ ?_⟩
        · rw [g9, hll]; rfl
        · obtain ⟨M, hM⟩ := zL
          exact ⟨M ++ [to], by rw [hM, List.append_assoc]⟩
        · intro j hj
          rw [OV.getB_set (by omega)]
          split
          · rfl
          · exact zS j hj
        · intro j hj
          rw [OV.getB_set (by omega)]
          split
          · rfl
          · exact hj
        · rw [OV.getB_set (by omega), if_pos rfl]
    · rintro h5 ⟨L', S', cap', a', z0, z1, z2, z3, z4, zM, z5, z6, zO, zR, ⟨M, zL⟩, zS, zA, zD⟩
      rw [s4]
      simp only [coreS, Value.cells, Value.oneCell', Nat.reduceAdd, Nat.reduceSub, Nat.reduceMul, Nat.reduceLeDiff, Int.reduceEq, Nat.reduceEqDiff, scopeK_normal, scopeK_ret, scopeK_exit, callV_yield, binds_cons, binds_nil, H27Fs94]
      have hll : L.length ≤ L'.length := by rw [zL, List.length_append]; omega
      have hgq : ∀ q, q < L.length → L'.getD q 0 = L.getD q 0 := fun q hq => by
        rw [zL, List.getD_eq_getElem?_getD, List.getElem?_append_left hq, List.getD_eq_getElem?_getD]
      refine ⟨by rw [inK_i64]; omega, roundD_mk (by kernel_rfl) ⟨L', S', k + 1, cap', a', rfl, by omega, z0, by omega, zM.cons z3 (by omega) (by omega) (by omega), z5, z6, zO, zR, fun q hq => ?_⟩ ?_⟩
      · rw [hgq q (by omega)]
        by_cases hqk : q = k
        · subst hqk
          rw [← hx]
          refine ⟨zD 0 (by rw [stepsX_length]; omega) _ 0 rfl, fun hc => zD 1 (by rw [stepsX_length, hc]; decide) _ 1 (by simp [stepsX, hc])⟩
        · have := hdone q (by omega)
          exact ⟨zS _ this.1, fun hc => zS _ (this.2 hc)⟩
      · show m.casts.length - ((k : Int) + 1).toNat < m.casts.length - (k : Int).toNat
        omega
    · exact fun j h' H => H.elim
  · have hlt2 : ¬ (k : Int) < L.length := by omega
    obtain rfl : k = L.length := by omega
    have d1 := seenI_cell (S := S) (by omega) (i := t0) (by omega)
    simp only [hg, k1, k2, d1, hlt2, decide_false, Int.toNat_natCast, coreS, Value.cells, Value.oneCell', Nat.reduceAdd, Nat.reduceSub, Nat.reduceMul, Nat.reduceLeDiff, Int.reduceEq, Nat.reduceEqDiff, H27Fs94]
    have hfin : S = m.ov.rch i0 := (R.fin fun x hx => by
      obtain ⟨q, hq, rfl⟩ := List.getElem_of_mem hx
      have := hdone q hq
      have e : L.getD q 0 = L[q] := by rw [List.getD_eq_getElem?_getD, List.getElem?_eq_getElem hq, Option.getD_some]
      rwa [e] at this).uniq (OV.rch_is gd.ok hi0)
    refine ⟨⟨by omega, by omega⟩, fin_marks mC fun h9 hs9 hk9 => ?_⟩
    simp only [coreS, Value.cells, Value.oneCell', Nat.reduceAdd, Nat.reduceSub, Nat.reduceMul, Nat.reduceLeDiff, Int.reduceEq, Nat.reduceEqDiff, H27Fs94]
    refine ⟨?_, by rw [hs9]; exact yC.size, fun q hq => by rw [hk9 q (by omega)]; exact yC.old q hq⟩
    rw [hfin]
    cases (m.ov.rch i0).getD t0 false <;> rfl
end Go.Proofs.YtafemfjhflfdeaaDoor
end
section
namespace Go.Proofs.YtafemfjhflfdeaaDoor
open Go Go.Proofs Go.Eng Go.Run Tab
set_option maxRecDepth 100000
set_option linter.unusedSimpArgs false
set_option linter.unusedVariables false
set_option linter.defProp false
set_option maxHeartbeats 4000000
set_option linter.defProp false
def H20Fs71 := (And.intro (And.intro @agg45 (And.intro @fps45_0 @fps45_1)) (And.intro (And.intro @inf45 @okf45) (And.intro @sz45 @zero45)))
def H20Fs72 := (And.intro (And.intro @agg45 (And.intro @fps45_0 @fps45_1)) (And.intro (And.intro @inf45 @okf45) (And.intro @sz45 @zero45)))
abbrev ratV (r : Nat × Nat) : Value := .agg #[.int .i64 (r.1 : Int), .int .i64 (r.2 : Int)]
theorem gcd_step (a b : Nat) (h : 0 < b) : Nat.gcd b (a % b) = Nat.gcd a b := by rw [Nat.gcd_comm a b, Nat.gcd_rec b a, Nat.gcd_comm]
theorem by71 (x y : Nat) (h : Eng.Heap) (hy : 1 ≤ y) (hx : x ≤ 1000000) (hyb : y ≤ 1000000) :
    CallsH Tryd.prog 71 #[.int .i64 x, .int .i64 y] h (fun v h' => v = ratV (OV.byP x y) ∧ Ext h h') := by
  (refine CallsH_of_exec Tryd.func71 rfl bod71 ?_; simp only [Tryd.ntmps71, Tryd.results71, coreS, stK_some, splice, Value.cells, Value.oneCell', Nat.reduceAdd, Nat.reduceSub, Nat.reduceMul, Nat.reduceLeDiff, Int.reduceEq, Nat.reduceEqDiff, H20Fs71])
  refine WP_loopI [5, 6, 9, 10, 11, 12, 13, 14] (fun g h' => h' = h.push (.cells #[.int .i64 0, .int .i64 0] 45) ∧ ∃ a b : Nat, a ≤ 1000000 ∧ b ≤ 1000000 ∧ 1 ≤ a + b ∧ g 5 = .int .i64 a ∧ g 6 = .int .i64 b ∧ Nat.gcd a b = Nat.gcd x y) (fun g _ => match g 6 with | .int _ q => q.toNat | _ => 0) ⟨rfl, x, y, hx, hyb, by omega, rfl, rfl, rfl⟩ ?_
  rintro g h' ⟨rfl, a, b, ha, hb, hab, g5, g6, hgc⟩
  by_cases hz : 0 < b
  · have hz2 : (0 : Int) < (b : Int) := by omega
    simp only [g6, hz2, decide_true, coreS, Value.cells, Value.oneCell', Nat.reduceAdd, Nat.reduceSub, Nat.reduceMul, Nat.reduceLeDiff, Int.reduceEq, Nat.reduceEqDiff, H20Fs71]
    refine WP_draw (by kernel_rfl) sta_eq [(0, 0), (1, 0), (2, 0), (3, 0), (4, 0), (5, 0)] (by kernel_rfl) rfl (by kernel_rfl) ?_
    simp only [g5, g6, hvK_eq, coreS, Value.cells, Value.oneCell', Nat.reduceAdd, Nat.reduceSub, Nat.reduceMul, Nat.reduceLeDiff, Int.reduceEq, Nat.reduceEqDiff, drawS, H20Fs71]
    refine ⟨by omega, roundK_mk (by kernel_rfl) ⟨rfl, b, a % b, hb, by have := Nat.mod_lt a hz; omega, by omega, rfl, by rw [Int.ofNat_tmod]; rfl, by rw [gcd_step a b hz, hgc]⟩ ?_⟩
    show (((a : Int).tmod (b : Int))).toNat < (b : Int).toNat
    rw [← Int.ofNat_tmod]
    have := Nat.mod_lt a hz
    omega
  · have hz2 : ¬ (0 : Int) < (b : Int) := by omega
    obtain rfl : b = 0 := by omega
    rw [Nat.gcd_zero_right] at hgc
    have e1 : (x : Int).tdiv (a : Int) = ((OV.byP x y).1 : Int) := by rw [OV.byP, ← hgc, Int.ofNat_tdiv]
    have e2 : (y : Int).tdiv (a : Int) = ((OV.byP x y).2 : Int) := by rw [OV.byP, ← hgc, Int.ofNat_tdiv]
    have k1 : (OV.byP x y).1 ≤ x := Nat.div_le_self _ _
    have k2 : (OV.byP x y).2 ≤ y := Nat.div_le_self _ _
    have hb1 := push_new (h := h) (o := .cells #[.int .i64 0, .int .i64 0] 45)
    simp only [g6, hz2, decide_false, coreS, Value.cells, Value.oneCell', Nat.reduceAdd, Nat.reduceSub, Nat.reduceMul, Nat.reduceLeDiff, Int.reduceEq, Nat.reduceEqDiff, H20Fs71]
    refine WP_draw (by kernel_rfl) sta_eq [(0, 0), (1, 0), (2, 0), (3, 0), (4, 0), (5, 0), (6, 0), (7, 1)] (by kernel_rfl) rfl (by kernel_rfl) ?_
    simp only [g5, g6, e1, e2, hvK_eq, splice, coreS, Value.cells, Value.oneCell', Nat.reduceAdd, Nat.reduceSub, Nat.reduceMul, Nat.reduceLeDiff, Int.reduceEq, Nat.reduceEqDiff, drawS, H20Fs71]
    refine ⟨by omega, by rw [inK_i64]; omega, by omega, by rw [inK_i64]; omega, ?_⟩
    refine stK_abs hb1 (by simp) fun h3 g3 u3 => ?_
    simp only [splice] at g3
    simp only [hvK_eq, g3, splice, coreS, Value.cells, Value.oneCell', Nat.reduceAdd, Nat.reduceSub, Nat.reduceMul, Nat.reduceLeDiff, Int.reduceEq, Nat.reduceEqDiff, drawS, H20Fs71]
    exact u3.ext ((Ext.refl h).push _) (Nat.le_refl _)
theorem by72 (x y : Nat) (h : Eng.Heap) (hy : 1 ≤ y) (hx : x ≤ 1000000) (hyb : y ≤ 1000000) :
    CallsH Tryd.prog 72 #[.int .i64 x, .int .i64 y] h (fun v h' => v = ratV (OV.byP x y) ∧ Ext h h') := by
  (refine CallsH_of_exec Tryd.func72 rfl bod72 ?_; simp only [Tryd.ntmps72, Tryd.results72, coreS, stK_some, splice, Value.cells, Value.oneCell', Nat.reduceAdd, Nat.reduceSub, Nat.reduceMul, Nat.reduceLeDiff, Int.reduceEq, Nat.reduceEqDiff, H20Fs72])
  refine WP_loopI [5, 6, 9, 10, 11, 12, 13, 14] (fun g h' => h' = h.push (.cells #[.int .i64 0, .int .i64 0] 45) ∧ ∃ a b : Nat, a ≤ 1000000 ∧ b ≤ 1000000 ∧ 1 ≤ a + b ∧ g 5 = .int .i64 a ∧ g 6 = .int .i64 b ∧ Nat.gcd a b = Nat.gcd x y) (fun g _ => match g 6 with | .int _ q => q.toNat | _ => 0) ⟨rfl, x, y, hx, hyb, by omega, rfl, rfl, rfl⟩ ?_
  rintro g h' ⟨rfl, a, b, ha, hb, hab, g5, g6, hgc⟩
  by_cases hz : 0 < b
  · have hz2 : ¬ (b : Int) = 0 := by omega
    simp only [g6, hz2, decide_false, Bool.not_false, coreS, Value.cells, Value.oneCell', Nat.reduceAdd, Nat.reduceSub, Nat.reduceMul, Nat.reduceLeDiff, Int.reduceEq, Nat.reduceEqDiff, H20Fs72]
    refine WP_draw (by kernel_rfl) sta_eq [(0, 0), (1, 0), (2, 0), (3, 0), (4, 0), (5, 0)] (by kernel_rfl) rfl (by kernel_rfl) ?_
    simp only [g5, g6, hvK_eq, coreS, Value.cells, Value.oneCell', Nat.reduceAdd, Nat.reduceSub, Nat.reduceMul, Nat.reduceLeDiff, Int.reduceEq, Nat.reduceEqDiff, drawS, H20Fs72]
    refine ⟨by omega, roundK_mk (by kernel_rfl) ⟨rfl, b, a % b, hb, by have := Nat.mod_lt a hz; omega, by omega, rfl, by rw [Int.ofNat_tmod]; rfl, by rw [gcd_step a b hz, hgc]⟩ ?_⟩
    show (((a : Int).tmod (b : Int))).toNat < (b : Int).toNat
    rw [← Int.ofNat_tmod]
    have := Nat.mod_lt a hz
    omega
  · obtain rfl : b = 0 := by omega
    have hz2 : ((0 : Nat) : Int) = 0 := rfl
    rw [Nat.gcd_zero_right] at hgc
    have e1 : (x : Int).tdiv (a : Int) = ((OV.byP x y).1 : Int) := by rw [OV.byP, ← hgc, Int.ofNat_tdiv]
    have e2 : (y : Int).tdiv (a : Int) = ((OV.byP x y).2 : Int) := by rw [OV.byP, ← hgc, Int.ofNat_tdiv]
    have k1 : (OV.byP x y).1 ≤ x := Nat.div_le_self _ _
    have k2 : (OV.byP x y).2 ≤ y := Nat.div_le_self _ _
    have hb1 := push_new (h := h) (o := .cells #[.int .i64 0, .int .i64 0] 45)
    simp only [g6, hz2, decide_true, Bool.not_true, coreS, Value.cells, Value.oneCell', Nat.reduceAdd, Nat.reduceSub, Nat.reduceMul, Nat.reduceLeDiff, Int.reduceEq, Nat.reduceEqDiff, H20Fs72]
    refine WP_draw (by kernel_rfl) sta_eq [(0, 0), (1, 0), (2, 0), (3, 0), (4, 0), (5, 0), (6, 0), (7, 1)] (by kernel_rfl) rfl (by kernel_rfl) ?_
    simp only [g5, g6, e1, e2, hvK_eq, splice, coreS, Value.cells, Value.oneCell', Nat.reduceAdd, Nat.reduceSub, Nat.reduceMul, Nat.reduceLeDiff, Int.reduceEq, Nat.reduceEqDiff, drawS, H20Fs72]
    refine ⟨by omega, by rw [inK_i64]; omega, by omega, by rw [inK_i64]; omega, ?_⟩
    refine stK_abs hb1 (by simp) fun h3 g3 u3 => ?_
    simp only [splice] at g3
    simp only [hvK_eq, g3, splice, coreS, Value.cells, Value.oneCell', Nat.reduceAdd, Nat.reduceSub, Nat.reduceMul, Nat.reduceLeDiff, Int.reduceEq, Nat.reduceEqDiff, drawS, H20Fs72]
    exact u3.ext ((Ext.refl h).push _) (Nat.le_refl _)
end Go.Proofs.YtafemfjhflfdeaaDoor
end
section
namespace Go.Proofs.YtafemfjhflfdeaaDoor
open Go Go.Proofs Go.Eng Go.Run Tab
set_option maxRecDepth 100000
set_option linter.unusedSimpArgs false
set_option linter.unusedVariables false
set_option linter.defProp false
set_option maxHeartbeats 4000000
set_option linter.defProp false
def H23Fs39 := (And.intro (And.intro (And.intro @agg24 @by3) (And.intro @inf24 @inf3)) (And.intro (And.intro @sz24 @sz3) (And.intro @zero3 @Tryd.underlying22)))
def H23Fs76 := (And.intro (And.intro (And.intro (And.intro @agg22 @agg3) (And.intro @agg84 @fo112_0)) (And.intro (And.intro @fo24_0 @fo84_0) (And.intro @fps84_0 (And.intro @fps84_1 @inf22)))) (And.intro (And.intro (And.intro @inf3 @inf84) (And.intro @okf84 @sz22)) (And.intro (And.intro @sz3 @sz84) (And.intro @zero84 (And.intro @Tryd.underlying9 @Tryd.underlying22)))))
abbrev EntI := List (Nat × Value × Nat)
def kvI (a : Nat) : Value := .int .i64 (a : Int)
theorem und3 : Tryd.prog.underlying 3 = some (.int .i64) := by kernel_rfl
theorem findNow_ints (a : Nat) : ∀ (es : EntI) (i : Nat), Instr.findNow (.int .i64) (kvI a) (es.map (entM kvI)) i = some (findA a es i)
  | [], i => rfl
  | x :: es, i => by
    have ih := findNow_ints a es (i + 1)
    unfold findA
    rw [List.map_cons, Instr.findNow]
    by_cases hx : a = x.1
    · subst hx
      simp [Instr.sameNow, entM, kvI]
    · have hne : ¬ (a : Int) = (x.1 : Int) := by omega
      have hb : ((a : Int) == (x.1 : Int)) = false := by simpa using hne
      simp only [Instr.sameNow, entM, kvI, hx, hb, if_true, if_false]
      exact ih
theorem keysI : Keys Tryd.prog 3 kvI where
  find a es W := MapKept.run_findKey und3 (findNow_ints a es 0)
  check a em W := check_sc (c := .i) (by kernel_rfl) em 9999 _ W
  stays a W := by simp [Instr.keyThatStays, kvI, Instr.sameBits]
theorem bits_planS (p : List Bool) : bits (planS p) = p := by
  simp only [bits, planS, List.map_map]
  induction p with
  | nil => rfl
  | cons b p ih => cases b <;> simp_all
theorem lets_planS (p : List Bool) : lets (planS p) = true := by
  simp only [lets, planS]
  induction p with
  | nil => rfl
  | cons b p ih => cases b <;> simp_all
theorem planS_size (p : List Bool) : (planS p).size = p.length := by simp [planS, ByteArray.size]
theorem planS_at (p : List Bool) {i : Nat} (hi : i < p.length) : (planS p).data.getD i 0 = if p[i] then 99 else 119 := by
  simp [planS, Array.getD_eq_getD_getElem?, hi]
theorem planS_cut (p : List Bool) (i j : Nat) (hij : i ≤ j) (hj : j ≤ p.length) : (planS p).extract i j = planS ((p.take j).drop i) := by
  apply ByteArray.ext
  apply Array.ext'
  simp [planS, List.take_drop, ← List.map_drop, ← List.map_take]
  rw [show i + (j - i) = j by omega]
theorem getA_not {a : Nat} : ∀ {es : EntI}, getA a es = none → a ∉ es.map (·.1)
  | [], _ => by simp
  | x :: es, h => by
    unfold getA at h
    split at h
    · cases h
    · rename_i hx
      rw [List.map_cons, List.mem_cons]
      rintro (h1 | h1)
      · exact hx h1
      · exact getA_not h h1
theorem round76 (m : MV) (gd : m.Good) (hn16 : m.casts.length ≤ 16) (b i0 : Nat) (hi0 : i0 < m.casts.length) (h : Eng.Heap) (hm : m.ok h) (ho : Oven h b m) (hlw : (m.ov.lw m.casts.length (i0, i0)).isSome) :
    CallsH Tryd.prog 76 #[.pointer (some ⟨b, 0, none⟩), .int .i64 i0] h (fun v h' => (∃ p q : List Bool, ∃ u : Nat, v = .tuple #[.string (planS p), .string (planS q)] ∧ m.ov.run (i0, i0) p = some (u, u) ∧ m.ov.run (u, u) q = some (u, u) ∧ 1 ≤ OV.casts q ∧ p.length + q.length ≤ 300) ∧ Ext h h') := by
  have hin : m.ov.In (i0, i0) := ⟨hi0, hi0⟩
  obtain ⟨x, hx⟩ := OV.lw_any gd.ok hi0 hlw (m.casts.length + 1)
  have hxb : x ≤ 280 := by
    have := OV.lw_bound gd.ok m.casts.length i0 x hi0 hx
    have : m.casts.length * (m.ov.n - 1) ≤ 16 * 15 := Nat.mul_le_mul hn16 (by show m.casts.length - 1 ≤ 15; omega)
    omega
  obtain ⟨⟨t, ht⟩, hc, hlen⟩ := OV.pl_run gd.ok hin hx
  obtain ⟨P, hP⟩ : ∃ P, P = m.ov.pl (m.casts.length + 1) (i0, i0) := ⟨_, rfl⟩
  rw [← hP] at ht hc hlen
  have ho' : h[b]? = some (.cells #[.slice m.a m.casts.length m.ca, .slice m.b m.waits.length m.cb, .int .i64 m.lo, .int .i64 m.hi] 112) := ho
  (refine CallsH_of_exec Tryd.func76 rfl bod76 ?_; simp only [Tryd.ntmps76, Tryd.results76, coreS, stK_some, splice, Value.cells, Value.oneCell', Nat.reduceAdd, Nat.reduceSub, Nat.reduceMul, Nat.reduceLeDiff, Int.reduceEq, Nat.reduceEqDiff, H23Fs76])
  simp only [ho', coreS, Value.cells, Value.oneCell', Nat.reduceAdd, Nat.reduceSub, Nat.reduceMul, Nat.reduceLeDiff, Int.reduceEq, Nat.reduceEqDiff, H23Fs76]
  refine ⟨by rw [inK_i64]; omega, ?_⟩
  have eP : (((m.casts.length : Int)) + 1) = ((m.casts.length + 1 : Nat) : Int) := by omega
  rw [eP]
  refine CallsH.mono (plan90 m gd hn16 b (i0, i0) (m.casts.length + 1) (by omega) h hin hm ho) ?_
  rintro v h1 ⟨rfl, x1⟩
  rw [hx, ← hP]
  simp only [Option.isSome_some, if_true, splice, coreS, Value.cells, Value.oneCell', Nat.reduceAdd, Nat.reduceSub, Nat.reduceMul, Nat.reduceLeDiff, Int.reduceEq, Nat.reduceEqDiff, H23Fs76]
  refine stK_abs (pn1 (h := h1)) (by simp) fun h2 g2 u2 => ?_
  simp only [splice] at g2
  have k0 := u2.get (pn0 (h := h1)) (by omega)
  have y1 := x1.push (.map #[] 0) |>.push (.cells #[.int .i64 0, .int .i64 0] 84)
  have hs1 := x1.size
  have y2 : Ext h h2 := u2.ext y1 (by omega)
  have hs2 : h2.size = h1.size + 2 := by rw [u2.size]; simp
  simp only [coreS, Value.cells, Value.oneCell', Nat.reduceAdd, Nat.reduceSub, Nat.reduceMul, Nat.reduceLeDiff, Int.reduceEq, Nat.reduceEqDiff, H23Fs76]
  refine str_rangeT Tryd.underlying9 rfl ?_
  simp only [hs2, coreS, Value.cells, Value.oneCell', Nat.reduceAdd, Nat.reduceSub, Nat.reduceMul, Nat.reduceLeDiff, Int.reduceEq, Nat.reduceEqDiff, H23Fs76]
  have m0 : MapV kvI (h2.push (.stringIter (planS P) 0)) h1.size [] 0 := ⟨push_old k0, by simp, by simp⟩
  have k1 := push_old (o := .stringIter (planS P) 0) g2
  have k2 := push_new (h := h2) (o := .stringIter (planS P) 0)
  rw [hs2] at k2
  have hPs := planS_size P
  refine WP_loopI [4, 5, 10, 11, 12, 34, 35, 36, 37, 38, 39, 40, 41, 42, 43, 44, 45, 46, 47, 48, 49, 50, 51, 52, 53, 54, 55, 56, 57, 58, 59, 60, 61, 62, 63, 64, 65, 66, 67, 68, 69, 70, 71, 72] (fun g h' => ∃ (i t c : Nat) (es : EntI), i ≤ P.length ∧ t < m.casts.length ∧ m.ov.run (i0, i0) (P.take i) = some (t, t) ∧ h'[h1.size + 1]? = some (.cells #[.int .i64 (t : Int), .int .i64 (t : Int)] 84) ∧ h'[h1.size + 2]? = some (.stringIter (planS P) i) ∧ MapV kvI h' h1.size es c ∧ Ext h h' ∧ h1.size + 3 ≤ h'.size ∧ es.length = OV.casts (P.take i) ∧ (es.map (·.1)).Nodup ∧ (∀ k ∈ es.map (·.1), k < m.casts.length) ∧ ∀ u v, getA u es = some v → ∃ j : Nat, v = .int .i64 (j : Int) ∧ j ≤ i ∧ m.ov.run (i0, i0) (P.take j) = some (u, u)) (fun _ h' => match h'[h1.size + 2]? with | some (.stringIter _ i) => P.length - i | _ => 0) ⟨0, i0, 0, [], by omega, hi0, rfl, k1, k2, m0, y2.push _, by rw [push_size]; omega, rfl, List.nodup_nil, by simp, fun u v hv => by cases hv⟩ ?_
  clear k0 k1 k2 m0 g2 u2 y1
  rintro g h' ⟨i, t, c, es, hiP, htn, hrun, k1, k2, M, y, hsz, hel, hnd, hkn, hes⟩
  have hmu : (match h'[h1.size + 2]? with | some (.stringIter _ i) => P.length - i | _ => 0) = P.length - i := by rw [k2]
  by_cases hi : i < P.length
  · have hla := ascii_of (lets_planS P) (i := i) (by omega)
    simp only [coreS, Value.cells, Value.oneCell', Nat.reduceAdd, Nat.reduceSub, Nat.reduceMul, Nat.reduceLeDiff, Int.reduceEq, Nat.reduceEqDiff, H23Fs76]
    refine str_next_one rfl k2 (by omega) hla fun h3 k2' u3 => ?_
    have j1 := u3.get k1 (by omega)
    have M3 : MapV kvI h3 h1.size es c := M.keep (u3.old _ (by omega))
    have y3 := u3.ext y (by omega)
    have hs3 := u3.size
    simp only [coreS, Value.cells, Value.oneCell', Nat.reduceAdd, Nat.reduceSub, Nat.reduceMul, Nat.reduceLeDiff, Int.reduceEq, Nat.reduceEqDiff, H23Fs76]
    refine WP_draw (by kernel_rfl) sta_eq [(0, 0), (1, 0), (2, 0), (3, 0), (4, 0), (5, 0), (6, 0), (7, 1), (8, 0), (9, 0), (10, 3), (11, 1)] (by kernel_rfl) rfl (by kernel_rfl) ?_
    have ecut : (planS P).extract i (i + 1) = planS ((P.take (i + 1)).drop i) := planS_cut P i (i + 1) (by omega) (by omega)
    simp only [j1, Int.toNat_natCast, hvK_eq, coreS, Value.cells, Value.oneCell', Nat.reduceAdd, Nat.reduceSub, Nat.reduceMul, Nat.reduceLeDiff, Int.reduceEq, Nat.reduceEqDiff, drawS, H23Fs76]
    refine ⟨by rw [inK_i64]; omega, by omega, by omega, by omega, ?_⟩
    rw [show ((i : Int) + 1).toNat = i + 1 by omega, ecut]
    refine CallsH.mono (run58 m b (t, t) _ h3 gd (hm.ext y3) (y3.get ho) ⟨htn, htn⟩ (lets_planS _)) ?_
    rintro v h4 ⟨rfl, x4⟩
    rw [bits_planS]
    have hnx : P.take (i + 1) = P.take i ++ [P[i]] := by rw [List.take_add_one, List.getElem?_eq_getElem hi]; rfl
    have hdr : (P.take (i + 1)).drop i = [P[i]] := by
      have hl : (P.take i).length = i := by rw [List.length_take]; omega
      rw [hnx, List.drop_append_of_le_length (by omega), List.drop_of_length_le (by omega), List.nil_append]
    obtain ⟨u, hu⟩ : ∃ u : Nat, m.ov.run (i0, i0) (P.take (i + 1)) = some (u, u) := by
      have h1 := ht
      rw [← List.take_append_drop (i + 1) P] at h1
      obtain ⟨w, hw, _⟩ := OV.run_split h1
      exact ⟨w.1, by rw [hw, OV.run_same gd.ok hw]⟩
    have hun : u < m.casts.length := (OV.in_run gd.ok hin hu).1
    have hu1 : m.ov.run (t, t) [P[i]] = some (u, u) := by
      have h1 := hu
      rw [hnx, OV.run_append, hrun] at h1
      exact h1
    rw [hdr, hu1]
    have q1 := x4.get j1
    have M4 := M3.ext x4
    have q2 := x4.get k2'
    have y4 := y3.trans x4
    have hs4 := x4.size
    simp only [runV, q1, hvK_eq, splice, coreS, Value.cells, Value.oneCell', Nat.reduceAdd, Nat.reduceSub, Nat.reduceMul, Nat.reduceLeDiff, Int.reduceEq, Nat.reduceEqDiff, drawS, H23Fs76]
    refine stK_abs q1 (by simp) fun h5 g5 u5 => ?_
    simp only [splice] at g5
    have M5 : MapV kvI h5 h1.size es c := M4.keep (u5.old _ (by omega))
    have r2 := u5.get q2 (by omega)
    have y5 := u5.ext y4 (by omega)
    have hs5 := u5.size
    have hat := planS_at P hi
    cases hb : P[i] with
    | false =>
      rw [hb] at hat hnx
      have hc0 : OV.casts (P.take (i + 1)) = OV.casts (P.take i) := by rw [hnx, OV.casts_append]; rfl
      simp only [hat, hvK_eq, Int.toNat_natCast, Bool.false_eq_true, if_false, coreS, Value.cells, Value.oneCell', Nat.reduceAdd, Nat.reduceSub, Nat.reduceMul, Nat.reduceLeDiff, Int.reduceEq, Nat.reduceEqDiff, drawS, H23Fs76]
      refine ⟨⟨by omega, by omega⟩, ?_⟩
      refine ⟨fun _ => ?_, fun hne => absurd rfl hne⟩
      refine roundK_mk (by kernel_rfl) ⟨i + 1, u, c, es, by omega, hun, hu, g5, r2, M5, y5, by omega, by rw [hc0]; exact hel, hnd, hkn, fun w v hv => ?_⟩ ?_
      · obtain ⟨j, h1, h2, h3⟩ := hes w v hv
        exact ⟨j, h1, by omega, h3⟩
      · rw [hmu]; simp only [r2]; omega
    | true =>
      rw [hb] at hat hnx
      have hc1 : OV.casts (P.take (i + 1)) = OV.casts (P.take i) + 1 := by rw [hnx, OV.casts_append]; rfl
      simp only [hat, hvK_eq, Int.toNat_natCast, if_true, coreS, Value.cells, Value.oneCell', Nat.reduceAdd, Nat.reduceSub, Nat.reduceMul, Nat.reduceLeDiff, Int.reduceEq, Nat.reduceEqDiff, drawS, H23Fs76]
      refine ⟨⟨by omega, by omega⟩, ?_⟩
      refine ⟨fun he => absurd he (by decide), fun _ => ?_⟩
      simp only [g5, coreS, Value.cells, Value.oneCell', Nat.reduceAdd, Nat.reduceSub, Nat.reduceMul, Nat.reduceLeDiff, Int.reduceEq, Nat.reduceEqDiff, drawS, H23Fs76]
      refine map_getT Tryd.underlying129 zero3 keysI M5 (a := u) (ok := true) (by rfl) (by rfl) ?_
      cases hga : getA u es with
      | some v =>
        obtain ⟨j, rfl, hji, hrj⟩ := hes u v hga
        simp only [if_true, Option.getD_some, Option.isSome_some, coreS, Value.cells, Value.oneCell', Nat.reduceAdd, Nat.reduceSub, Nat.reduceMul, Nat.reduceLeDiff, Int.reduceEq, Nat.reduceEqDiff, drawS, H23Fs76]
        refine WP_draw (by kernel_rfl) sta_eq [(0, 0), (1, 0), (2, 0), (3, 0), (4, 0), (5, 0), (6, 0), (7, 0), (8, 0), (9, 0)] (by kernel_rfl) rfl (by kernel_rfl) ?_
        simp only [hvK_eq, coreS, Value.cells, Value.oneCell', Nat.reduceAdd, Nat.reduceSub, Nat.reduceMul, Nat.reduceLeDiff, Int.reduceEq, Nat.reduceEqDiff, drawS, H23Fs76]
        have esp : P.take (i + 1) = P.take j ++ (P.take (i + 1)).drop j := by
          have := (List.take_append_drop j (P.take (i + 1))).symm
          rwa [List.take_take, Nat.min_eq_left (by omega)] at this
        have hq : m.ov.run (u, u) ((P.take (i + 1)).drop j) = some (u, u) := by
          have h1 := hu
          rw [esp] at h1
          obtain ⟨w, hw, hw2⟩ := OV.run_split h1
          rw [hrj] at hw
          cases hw
          exact hw2
        have hcq : 1 ≤ OV.casts ((P.take (i + 1)).drop j) := by
          have h1 : (P.take i).length = i := by rw [List.length_take]; omega
          rw [hnx, List.drop_append_of_le_length (by omega), OV.casts_append]
          exact Nat.le_add_left _ _
        refine ⟨by omega, by omega, by omega, by rw [inK_i64]; omega, by omega, by omega, by omega, ⟨P.take j, (P.take (i + 1)).drop j, u, ?_, hrj, hq, hcq, ?_⟩, y5⟩
        · rw [show ((i : Int) + 1).toNat = i + 1 by omega, planS_cut P 0 j (by omega) (by omega), planS_cut P j (i + 1) (by omega) (by omega), List.drop_zero]
        · simp only [List.length_take, List.length_drop]; omega
      | none =>
        simp only [if_true, Option.getD_none, Option.isSome_none, g5, coreS, Value.cells, Value.oneCell', Nat.reduceAdd, Nat.reduceSub, Nat.reduceMul, Nat.reduceLeDiff, Int.reduceEq, Nat.reduceEqDiff, drawS, H23Fs76]
        refine ⟨by rw [inK_i64]; omega, ?_⟩
        refine map_putT Tryd.underlying129 keysI M5 (a := u) (v := .int .i64 ((i : Int) + 1)) (by rfl) (by rfl) (by rfl) fun h6 M6 u6 => ?_
        have hnot := getA_not hga
        have hpk : (putA u (.int .i64 ((i : Int) + 1)) c es).map (·.1) = es.map (·.1) ++ [u] := by rw [put_keys, if_neg hnot]
        have hpl : (putA u (.int .i64 ((i : Int) + 1)) c es).length = es.length + 1 := by
          have := congrArg List.length hpk
          simpa using this
        simp only [coreS, Value.cells, Value.oneCell', Nat.reduceAdd, Nat.reduceSub, Nat.reduceMul, Nat.reduceLeDiff, Int.reduceEq, Nat.reduceEqDiff, drawS, H23Fs76]
        refine roundK_mk (by kernel_rfl) ⟨i + 1, u, _, _, by omega, hun, hu, u6.get g5 (by omega), u6.get r2 (by omega), M6, u6.ext y5 (by omega), by rw [u6.size]; omega, by rw [hpl, hc1, hel], put_nodup hnd, fun k hk => ?_, fun w v hv => ?_⟩ ?_
        · rw [hpk, List.mem_append, List.mem_singleton] at hk
          rcases hk with hk | rfl
          · exact hkn k hk
          · exact hun
        · rw [getA_put] at hv
          split at hv
          · rename_i hw
            cases hv
            exact ⟨i + 1, by congr 1, Nat.le_refl _, by rw [hw]; exact hu⟩
          · obtain ⟨j, h1, h2, h3⟩ := hes w v hv
            exact ⟨j, h1, by omega, h3⟩
        · rw [hmu]; simp only [u6.get r2 (by omega)]; omega
  · obtain rfl : i = P.length := by omega
    exfalso
    rw [List.take_of_length_le (Nat.le_refl _), hc] at hel
    have h9 := OV.nodup_bound m.casts.length (es.map (·.1)) hkn hnd
    rw [List.length_map] at h9
    omega
def roE (m : MV) (x : Int) : Int := if opn m [x] ≠ 0 then opn m [x] else if 0 ≤ moV m x.toNat then 22 else 0
def RoV (m : MV) (x : Int) (v : Value) : Prop := (roE m x ≠ 0 ∧ v = .tuple #[.string ⟨#[]⟩, .string ⟨#[]⟩, .int .i64 (roE m x)]) ∨ (roE m x = 0 ∧ ∃ (p q : List Bool) (u : Nat), v = .tuple #[.string (planS p), .string (planS q), .int .i64 0] ∧ m.ov.run (x.toNat, x.toNat) p = some (u, u) ∧ m.ov.run (u, u) q = some (u, u) ∧ 1 ≤ OV.casts q ∧ p.length + q.length ≤ 300)
theorem mo_neg {m : MV} (gd : m.Good) {i : Nat} (hi : i < m.casts.length) (h : ¬ 0 ≤ moV m i) (k : Nat) : ∃ x, m.ov.lw k (i, i) = some x := by
  cases hm : m.ov.most i with
  | none => exact OV.most_none gd.ok hi hm k
  | some q => rw [moV, hm] at h; simp only at h; omega
theorem round39 (m : MV) (x : Int) (h : Eng.Heap) (hm : m.ok h) :
    CallsH Tryd.prog 39 #[m.val, .int .i64 x] h (fun v h' => RoV m x v ∧ Ext h h') := by
  (refine CallsH_of_exec Tryd.func39 rfl bod39 ?_; simp only [Tryd.ntmps39, Tryd.results39, coreS, stK_some, splice, Value.cells, Value.oneCell', Nat.reduceAdd, Nat.reduceSub, Nat.reduceMul, Nat.reduceLeDiff, Int.reduceEq, Nat.reduceEqDiff, H23Fs39])
  have x0 : Ext h (h.push (.cells #[.slice m.a m.casts.length m.ca, .slice m.b m.waits.length m.cb, .int .i64 m.lo, .int .i64 m.hi] 24)) := (Ext.refl h).push _
  refine CallsH.mono (open56 m _ 1 1 [x] _ (hm.ext (x0.push _)) (intsV_one pn1) (by omega)) ?_
  rintro v h1 ⟨x1, h1'⟩
  have y1 := (x0.push _).trans x1
  rcases h1' with ⟨e0, b, rfl, ho, hbs⟩ | ⟨e0, rfl⟩
  · obtain ⟨i, rfl, hi, h16, gd⟩ := opn_in e0
    have eE : roE m i = if 0 ≤ moV m i then 22 else 0 := by rw [roE, if_neg (by simpa using e0)]; rfl
    simp only [decide_true, Bool.not_true, splice, coreS, Value.cells, Value.oneCell', Nat.reduceAdd, Nat.reduceSub, Nat.reduceMul, Nat.reduceLeDiff, Int.reduceEq, Nat.reduceEqDiff, H23Fs39]
    refine CallsH.mono (most68 m gd h16 b i hi h1 (hm.ext y1) ho) ?_
    rintro v h2 ⟨rfl, x2⟩
    have y2 := y1.trans x2
    by_cases hp : 0 ≤ moV m i
    · rw [if_pos hp] at eE
      simp only [hp, decide_true, coreS, Value.cells, Value.oneCell', Nat.reduceAdd, Nat.reduceSub, Nat.reduceMul, Nat.reduceLeDiff, Int.reduceEq, Nat.reduceEqDiff, H23Fs39]
      exact ⟨.inl ⟨by omega, by rw [eE]⟩, y2⟩
    · rw [if_neg hp] at eE
      simp only [hp, decide_false, coreS, Value.cells, Value.oneCell', Nat.reduceAdd, Nat.reduceSub, Nat.reduceMul, Nat.reduceLeDiff, Int.reduceEq, Nat.reduceEqDiff, H23Fs39]
      refine CallsH.mono (round76 m gd h16 b i hi h2 (hm.ext y2) (x2.get ho) (by obtain ⟨z, hz⟩ := mo_neg gd hi hp m.casts.length; rw [hz]; rfl)) ?_
      rintro v h3 ⟨⟨p, q, u, rfl, r1, r2, r3, r4⟩, x3⟩
      simp only [coreS, Value.cells, Value.oneCell', Nat.reduceAdd, Nat.reduceSub, Nat.reduceMul, Nat.reduceLeDiff, Int.reduceEq, Nat.reduceEqDiff, H23Fs39]
      exact ⟨.inr ⟨eE, p, q, u, rfl, r1, r2, r3, r4⟩, y2.trans x3⟩
  · have eE : roE m x = opn m [x] := by rw [roE, if_pos e0]
    simp only [e0, decide_false, Bool.not_false, coreS, Value.cells, Value.oneCell', Nat.reduceAdd, Nat.reduceSub, Nat.reduceMul, Nat.reduceLeDiff, Int.reduceEq, Nat.reduceEqDiff, H23Fs39]
    exact ⟨.inl ⟨by rw [eE]; exact e0, by rw [eE]⟩, y1⟩
end Go.Proofs.YtafemfjhflfdeaaDoor
end
section
namespace Go.Proofs.YtafemfjhflfdeaaDoor
open Go Go.Proofs Go.Eng Go.Run Tab
set_option maxRecDepth 100000
set_option linter.unusedSimpArgs false
set_option linter.unusedVariables false
set_option linter.defProp false
set_option maxHeartbeats 4000000
set_option linter.defProp false
def H21Fs35 := (And.intro (And.intro (And.intro @agg24 @agg45) (And.intro @inf24 @inf45)) (And.intro (And.intro @okf45 @sz24) (And.intro @sz45 (And.intro @zero45 @Tryd.underlying9))))
def H21Fs36 := (And.intro (And.intro (And.intro @agg24 @agg45) (And.intro @inf24 @inf45)) (And.intro (And.intro @okf45 @sz24) (And.intro @sz45 @zero45)))
def ckrE (m : MV) (x : Int) (p q : ByteArray) : Int := if runE m x p ≠ 0 then runE m x p else if runE m (runA m x p) q ≠ 0 then runE m (runA m x p) q else if runA m (runA m x p) q ≠ runA m x p ∨ runK m (runA m x p) q = 0 then 14 else 0
def ckrV (m : MV) (x : Int) (p q : ByteArray) : Nat × Nat := if ckrE m x p q = 0 then OV.byP (q.size - (runK m (runA m x p) q).toNat) (runK m (runA m x p) q).toNat else (0, 0)
theorem run_bounds {m : MV} {x : Int} {s : ByteArray} (h : runE m x s = 0) : (s.size ≤ 500 ∧ lets s = true) ∧ ∃ k : Nat, runK m x s = k ∧ k ≤ s.size ∧ k = OV.casts (bits s) := by
  have h0 := h
  unfold runE at h
  split at h
  · rename_i h1; exact absurd h h1
  split at h
  · rename_i h1; exact absurd h h1
  rename_i h1 h2
  have := form_ok (Classical.not_not.1 h2)
  refine ⟨this, OV.casts (bits s), ?_, by rw [← bits_length]; exact OV.casts_le _, rfl⟩
  rw [runK, if_pos h0]
theorem count73 (s : ByteArray) (h : Eng.Heap) (hl : lets s = true) (hs : s.size ≤ 1000000) :
    CallsH Tryd.prog 73 #[.string s, .int .u8 119] h (fun v h' => v = .int .i64 ((s.size - OV.casts (bits s) : Nat) : Int) ∧ h' = h) := by
  (refine CallsH_of_exec Tryd.func73 rfl bod73 ?_; simp only [Tryd.ntmps73, Tryd.results73, coreS, stK_some, splice, Value.cells, Value.oneCell', Nat.reduceAdd, Nat.reduceSub, Nat.reduceMul, Nat.reduceLeDiff, Int.reduceEq, Nat.reduceEqDiff, Tryd.underlying9])
  refine WP_loopI [5, 6, 7, 8, 9, 10, 11, 12, 13, 14, 15, 16, 17, 18, 19] (fun g h' => h' = h ∧ ∃ i : Nat, i ≤ s.size ∧ g 6 = .int .i64 i ∧ g 5 = .int .i64 ((i - OV.casts ((bits s).take i) : Nat) : Int)) (fun g _ => match g 6 with | .int _ q => s.size - q.toNat | _ => 0) ⟨rfl, 0, by omega, rfl, rfl⟩ ?_
  rintro g h' ⟨rfl, i, hin, hg, h5⟩
  by_cases hi : i < s.size
  · have hlt : (i : Int) < s.size := by omega
    have hnx := bits_next s hi
    have hcc : OV.casts ((bits s).take i) ≤ i := Nat.le_trans (OV.casts_le _) (by rw [List.length_take]; omega)
    have hcs := congrArg OV.casts hnx
    rw [OV.casts_append] at hcs
    by_cases hw : s.data.getD i 0 = 119
    · have hw2 : ((s.data.getD i 0).toNat : Int) = 119 := by rw [hw]; rfl
      have hc0 : OV.casts [s.data.getD i 0 == 99] = 0 := by rw [hw]; rfl
      simp only [hg, h5, hlt, hw2, Int.toNat_natCast, decide_true, coreS, Value.cells, Value.oneCell', Nat.reduceAdd, Nat.reduceSub, Nat.reduceMul, Nat.reduceLeDiff, Int.reduceEq, Nat.reduceEqDiff, Tryd.underlying9]
      refine ⟨by omega, by rw [inK_i64]; omega, by rw [inK_i64]; omega, roundK_mk (by kernel_rfl) ⟨rfl, i + 1, by omega, rfl, ?_⟩ ?_⟩
      · rw [hcs, hc0]
        show Value.int .i64 _ = _
        congr 1; omega
      · show s.size - ((i : Int) + 1).toNat < s.size - (i : Int).toNat
        omega
    · have hc : s.data.getD i 0 = 99 := ((lets_iff s).1 hl i hi).resolve_right hw
      have hw2 : ¬ ((s.data.getD i 0).toNat : Int) = 119 := by rw [hc]; decide
      have hc0 : OV.casts [s.data.getD i 0 == 99] = 1 := by rw [hc]; rfl
      simp only [hg, h5, hlt, hw2, Int.toNat_natCast, decide_true, decide_false, coreS, Value.cells, Value.oneCell', Nat.reduceAdd, Nat.reduceSub, Nat.reduceMul, Nat.reduceLeDiff, Int.reduceEq, Nat.reduceEqDiff, Tryd.underlying9]
      refine ⟨by omega, by rw [inK_i64]; omega, roundK_mk (by kernel_rfl) ⟨rfl, i + 1, by omega, rfl, ?_⟩ ?_⟩
      · rw [hcs, hc0, Nat.add_sub_add_right]
        rfl
      · show s.size - ((i : Int) + 1).toNat < s.size - (i : Int).toNat
        omega
  · have hlt : ¬ (i : Int) < s.size := by omega
    obtain rfl : i = s.size := by omega
    simp only [hg, h5, hlt, decide_false, coreS, Value.cells, Value.oneCell', Nat.reduceAdd, Nat.reduceSub, Nat.reduceMul, Nat.reduceLeDiff, Int.reduceEq, Nat.reduceEqDiff, Tryd.underlying9]
    rw [List.take_of_length_le (by rw [bits_length]; exact Nat.le_refl _)]
theorem ckr35 (m : MV) (x : Int) (p q : ByteArray) (h : Eng.Heap) (hm : m.ok h) (hp : p.size ≤ 9223372036854775807) (hq : q.size ≤ 9223372036854775807) :
    CallsH Tryd.prog 35 #[m.val, .int .i64 x, .string p, .string q] h (fun v h' => v = .tuple #[ratV (ckrV m x p q), .int .i64 (ckrE m x p q)] ∧ Ext h h') := by
  have key : ∀ {e : Int} {P : Prop}, ckrE m x p q = e → e ≠ 0 → P → Value.tuple #[.agg #[.int .i64 0, .int .i64 0], .int .i64 e] = .tuple #[ratV (ckrV m x p q), .int .i64 (ckrE m x p q)] ∧ P := by
    rintro e P rfl he hP
    exact ⟨by rw [ckrV, if_neg he]; rfl, hP⟩
  (refine CallsH_of_exec Tryd.func35 rfl bod35 ?_; simp only [Tryd.ntmps35, Tryd.results35, coreS, stK_some, splice, Value.cells, Value.oneCell', Nat.reduceAdd, Nat.reduceSub, Nat.reduceMul, Nat.reduceLeDiff, Int.reduceEq, Nat.reduceEqDiff, H21Fs35])
  have x0 : Ext h ((h.push (.cells #[.slice m.a m.casts.length m.ca, .slice m.b m.waits.length m.cb, .int .i64 m.lo, .int .i64 m.hi] 24)).push (.cells #[.int .i64 0, .int .i64 0] 45)) := ((Ext.refl h).push _).push _
  refine CallsH.mono (run20 m x p _ (hm.ext x0) hp) ?_
  rintro v h1 ⟨rfl, x1⟩
  have y1 := x0.trans x1
  have b0 := x1.get (pn0 (h := h))
  have b1 := x1.get (pn1 (h := h))
  by_cases e1 : runE m x p = 0
  · simp only [e1, b0, decide_true, Bool.not_true, coreS, Value.cells, Value.oneCell', Nat.reduceAdd, Nat.reduceSub, Nat.reduceMul, Nat.reduceLeDiff, Int.reduceEq, Nat.reduceEqDiff, H21Fs35]
    refine CallsH.mono (run20 m (runA m x p) q h1 (hm.ext y1) hq) ?_
    rintro v h2 ⟨rfl, x2⟩
    have y2 := y1.trans x2
    have b1 := x2.get b1
    by_cases e2 : runE m (runA m x p) q = 0
    · have eE : ckrE m x p q = if runA m (runA m x p) q ≠ runA m x p ∨ runK m (runA m x p) q = 0 then 14 else 0 := by rw [ckrE, if_neg (by simpa using e1), if_neg (by simpa using e2)]
      obtain ⟨⟨hs, hlet⟩, k, hk, hks, hkc⟩ := run_bounds e2
      by_cases f1 : runA m (runA m x p) q = runA m x p
      · by_cases f2 : runK m (runA m x p) q = 0
        · simp only [e2, f1, f2, b1, decide_true, Bool.not_true, splice, coreS, Value.cells, Value.oneCell', Nat.reduceAdd, Nat.reduceSub, Nat.reduceMul, Nat.reduceLeDiff, Int.reduceEq, Nat.reduceEqDiff, H21Fs35]
          refine stK_abs b1 (by simp) fun h3 g3 u3 => ?_
          simp only [splice] at g3
          simp only [g3, splice, coreS, Value.cells, Value.oneCell', Nat.reduceAdd, Nat.reduceSub, Nat.reduceMul, Nat.reduceLeDiff, Int.reduceEq, Nat.reduceEqDiff, H21Fs35]
          exact key (by rw [eE, if_pos (.inr f2)]) (by omega) (u3.ext y2 (by have := y1.size; omega))
        · have hE : ckrE m x p q = 0 := by rw [eE, if_neg]; rintro (h | h); exact h f1; exact f2 h
          have hk0 : 1 ≤ k := by omega
          have hk2 : ¬ (k : Int) = 0 := by omega
          have hV : ckrV m x p q = OV.byP (q.size - k) k := by rw [ckrV, if_pos hE, hk, Int.toNat_natCast]
          simp only [e2, f1, hk, hk2, decide_true, decide_false, Bool.not_true, coreS, Value.cells, Value.oneCell', Nat.reduceAdd, Nat.reduceSub, Nat.reduceMul, Nat.reduceLeDiff, Int.reduceEq, Nat.reduceEqDiff, H21Fs35]
          have ek : (q.size : Int) - (k : Int) = ((q.size - k : Nat) : Int) := by omega
          refine ⟨by rw [inK_i64]; omega, ?_⟩
          rw [ek]
          refine CallsH.mono (by71 (q.size - k) k h2 hk0 (by omega) (by omega)) ?_
          rintro v h3 ⟨rfl, x3⟩
          have b3 := x3.get b1
          simp only [b3, splice, coreS, Value.cells, Value.oneCell', Nat.reduceAdd, Nat.reduceSub, Nat.reduceMul, Nat.reduceLeDiff, Int.reduceEq, Nat.reduceEqDiff, H21Fs35]
          refine stK_abs b3 (by simp) fun h4 g4 u4 => ?_
          simp only [splice] at g4
          simp only [g4, splice, coreS, Value.cells, Value.oneCell', Nat.reduceAdd, Nat.reduceSub, Nat.reduceMul, Nat.reduceLeDiff, Int.reduceEq, Nat.reduceEqDiff, H21Fs35]
          exact ⟨by rw [hE, hV], u4.ext (y2.trans x3) (by have := y1.size; omega)⟩
      · simp only [e2, f1, b1, decide_true, decide_false, Bool.not_true, Bool.not_false, splice, coreS, Value.cells, Value.oneCell', Nat.reduceAdd, Nat.reduceSub, Nat.reduceMul, Nat.reduceLeDiff, Int.reduceEq, Nat.reduceEqDiff, H21Fs35]
        refine stK_abs b1 (by simp) fun h3 g3 u3 => ?_
        simp only [splice] at g3
        simp only [g3, splice, coreS, Value.cells, Value.oneCell', Nat.reduceAdd, Nat.reduceSub, Nat.reduceMul, Nat.reduceLeDiff, Int.reduceEq, Nat.reduceEqDiff, H21Fs35]
        exact key (by rw [eE, if_pos (.inl f1)]) (by omega) (u3.ext y2 (by have := y1.size; omega))
    · simp only [e2, b1, decide_false, Bool.not_false, splice, coreS, Value.cells, Value.oneCell', Nat.reduceAdd, Nat.reduceSub, Nat.reduceMul, Nat.reduceLeDiff, Int.reduceEq, Nat.reduceEqDiff, H21Fs35]
      refine stK_abs b1 (by simp) fun h3 g3 u3 => ?_
      simp only [splice] at g3
      simp only [g3, splice, coreS, Value.cells, Value.oneCell', Nat.reduceAdd, Nat.reduceSub, Nat.reduceMul, Nat.reduceLeDiff, Int.reduceEq, Nat.reduceEqDiff, H21Fs35]
      exact key (by rw [ckrE, if_neg (by simpa using e1), if_pos e2]) e2 (u3.ext y2 (by have := y1.size; omega))
  · simp only [e1, b1, decide_false, Bool.not_false, splice, coreS, Value.cells, Value.oneCell', Nat.reduceAdd, Nat.reduceSub, Nat.reduceMul, Nat.reduceLeDiff, Int.reduceEq, Nat.reduceEqDiff, H21Fs35]
    refine stK_abs b1 (by simp) fun h3 g3 u3 => ?_
    simp only [splice] at g3
    simp only [g3, splice, coreS, Value.cells, Value.oneCell', Nat.reduceAdd, Nat.reduceSub, Nat.reduceMul, Nat.reduceLeDiff, Int.reduceEq, Nat.reduceEqDiff, H21Fs35]
    exact key (by rw [ckrE, if_pos e1]) e1 (u3.ext y1 (by omega))
theorem ckr36 (m : MV) (x : Int) (p q : ByteArray) (h : Eng.Heap) (hm : m.ok h) (hp : p.size ≤ 9223372036854775807) (hq : q.size ≤ 9223372036854775807) :
    CallsH Tryd.prog 36 #[m.val, .int .i64 x, .string p, .string q] h (fun v h' => v = .tuple #[ratV (ckrV m x p q), .int .i64 (ckrE m x p q)] ∧ Ext h h') := by
  have key : ∀ {e : Int} {P : Prop}, ckrE m x p q = e → e ≠ 0 → P → Value.tuple #[.agg #[.int .i64 0, .int .i64 0], .int .i64 e] = .tuple #[ratV (ckrV m x p q), .int .i64 (ckrE m x p q)] ∧ P := by
    rintro e P rfl he hP
    exact ⟨by rw [ckrV, if_neg he]; rfl, hP⟩
  (refine CallsH_of_exec Tryd.func36 rfl bod36 ?_; simp only [Tryd.ntmps36, Tryd.results36, coreS, stK_some, splice, Value.cells, Value.oneCell', Nat.reduceAdd, Nat.reduceSub, Nat.reduceMul, Nat.reduceLeDiff, Int.reduceEq, Nat.reduceEqDiff, H21Fs36])
  have x0 : Ext h ((h.push (.cells #[.slice m.a m.casts.length m.ca, .slice m.b m.waits.length m.cb, .int .i64 m.lo, .int .i64 m.hi] 24)).push (.cells #[.int .i64 0, .int .i64 0] 45)) := ((Ext.refl h).push _).push _
  refine CallsH.mono (run21 m x p _ (hm.ext x0) hp) ?_
  rintro v h1 ⟨rfl, x1⟩
  have y1 := x0.trans x1
  have b0 := x1.get (pn0 (h := h))
  have b1 := x1.get (pn1 (h := h))
  by_cases e1 : runE m x p = 0
  · simp only [e1, b0, decide_true, Bool.not_true, coreS, Value.cells, Value.oneCell', Nat.reduceAdd, Nat.reduceSub, Nat.reduceMul, Nat.reduceLeDiff, Int.reduceEq, Nat.reduceEqDiff, H21Fs36]
    refine CallsH.mono (run21 m (runA m x p) q h1 (hm.ext y1) hq) ?_
    rintro v h2 ⟨rfl, x2⟩
    have y2 := y1.trans x2
    have b1 := x2.get b1
    by_cases e2 : runE m (runA m x p) q = 0
    · have eE : ckrE m x p q = if runA m (runA m x p) q ≠ runA m x p ∨ runK m (runA m x p) q = 0 then 14 else 0 := by rw [ckrE, if_neg (by simpa using e1), if_neg (by simpa using e2)]
      obtain ⟨⟨hs, hlet⟩, k, hk, hks, hkc⟩ := run_bounds e2
      by_cases f1 : runA m (runA m x p) q = runA m x p
      · by_cases f2 : runK m (runA m x p) q = 0
        · simp only [e2, f1, f2, b1, decide_true, Bool.not_true, splice, coreS, Value.cells, Value.oneCell', Nat.reduceAdd, Nat.reduceSub, Nat.reduceMul, Nat.reduceLeDiff, Int.reduceEq, Nat.reduceEqDiff, H21Fs36]
          refine stK_abs b1 (by simp) fun h3 g3 u3 => ?_
          simp only [splice] at g3
          simp only [g3, splice, coreS, Value.cells, Value.oneCell', Nat.reduceAdd, Nat.reduceSub, Nat.reduceMul, Nat.reduceLeDiff, Int.reduceEq, Nat.reduceEqDiff, H21Fs36]
          exact key (by rw [eE, if_pos (.inr f2)]) (by omega) (u3.ext y2 (by have := y1.size; omega))
        · have hE : ckrE m x p q = 0 := by rw [eE, if_neg]; rintro (h | h); exact h f1; exact f2 h
          have hk0 : 1 ≤ k := by omega
          have hk2 : ¬ (k : Int) = 0 := by omega
          have hV : ckrV m x p q = OV.byP (q.size - k) k := by rw [ckrV, if_pos hE, hk, Int.toNat_natCast]
          simp only [e2, f1, hk, hk2, decide_true, decide_false, Bool.not_true, coreS, Value.cells, Value.oneCell', Nat.reduceAdd, Nat.reduceSub, Nat.reduceMul, Nat.reduceLeDiff, Int.reduceEq, Nat.reduceEqDiff, H21Fs36]
          refine CallsH.mono (count73 q h2 hlet (by omega)) ?_
          rintro v h2' ⟨rfl, rfl⟩
          simp only [hk, coreS, Value.cells, Value.oneCell', Nat.reduceAdd, Nat.reduceSub, Nat.reduceMul, Nat.reduceLeDiff, Int.reduceEq, Nat.reduceEqDiff, H21Fs36]
          rw [← hkc]
          refine CallsH.mono (by72 (q.size - k) k _ hk0 (by omega) (by omega)) ?_
          rintro v h3 ⟨rfl, x3⟩
          have b3 := x3.get b1
          simp only [b3, splice, coreS, Value.cells, Value.oneCell', Nat.reduceAdd, Nat.reduceSub, Nat.reduceMul, Nat.reduceLeDiff, Int.reduceEq, Nat.reduceEqDiff, H21Fs36]
          refine stK_abs b3 (by simp) fun h4 g4 u4 => ?_
          simp only [splice] at g4
          simp only [g4, splice, coreS, Value.cells, Value.oneCell', Nat.reduceAdd, Nat.reduceSub, Nat.reduceMul, Nat.reduceLeDiff, Int.reduceEq, Nat.reduceEqDiff, H21Fs36]
          exact ⟨by rw [hE, hV], u4.ext (y2.trans x3) (by have := y1.size; omega)⟩
      · simp only [e2, f1, b1, decide_true, decide_false, Bool.not_true, Bool.not_false, splice, coreS, Value.cells, Value.oneCell', Nat.reduceAdd, Nat.reduceSub, Nat.reduceMul, Nat.reduceLeDiff, Int.reduceEq, Nat.reduceEqDiff, H21Fs36]
        refine stK_abs b1 (by simp) fun h3 g3 u3 => ?_
        simp only [splice] at g3
        simp only [g3, splice, coreS, Value.cells, Value.oneCell', Nat.reduceAdd, Nat.reduceSub, Nat.reduceMul, Nat.reduceLeDiff, Int.reduceEq, Nat.reduceEqDiff, H21Fs36]
        exact key (by rw [eE, if_pos (.inl f1)]) (by omega) (u3.ext y2 (by have := y1.size; omega))
    · simp only [e2, b1, decide_false, Bool.not_false, splice, coreS, Value.cells, Value.oneCell', Nat.reduceAdd, Nat.reduceSub, Nat.reduceMul, Nat.reduceLeDiff, Int.reduceEq, Nat.reduceEqDiff, H21Fs36]
      refine stK_abs b1 (by simp) fun h3 g3 u3 => ?_
      simp only [splice] at g3
      simp only [g3, splice, coreS, Value.cells, Value.oneCell', Nat.reduceAdd, Nat.reduceSub, Nat.reduceMul, Nat.reduceLeDiff, Int.reduceEq, Nat.reduceEqDiff, H21Fs36]
      exact key (by rw [ckrE, if_neg (by simpa using e1), if_pos e2]) e2 (u3.ext y2 (by have := y1.size; omega))
  · simp only [e1, b1, decide_false, Bool.not_false, splice, coreS, Value.cells, Value.oneCell', Nat.reduceAdd, Nat.reduceSub, Nat.reduceMul, Nat.reduceLeDiff, Int.reduceEq, Nat.reduceEqDiff, H21Fs36]
    refine stK_abs b1 (by simp) fun h3 g3 u3 => ?_
    simp only [splice] at g3
    simp only [g3, splice, coreS, Value.cells, Value.oneCell', Nat.reduceAdd, Nat.reduceSub, Nat.reduceMul, Nat.reduceLeDiff, Int.reduceEq, Nat.reduceEqDiff, H21Fs36]
    exact key (by rw [ckrE, if_pos e1]) e1 (u3.ext y1 (by omega))
end Go.Proofs.YtafemfjhflfdeaaDoor
end
section
namespace Go.Proofs.YtafemfjhflfdeaaDoor
open Go Go.Proofs Go.Eng Go.Run Tab
set_option maxRecDepth 100000
set_option linter.unusedSimpArgs false
set_option linter.unusedVariables false
set_option linter.defProp false
set_option maxHeartbeats 4000000
set_option linter.defProp false
def H28Fs95 := (And.intro (And.intro @agg45 (And.intro @by45 @inf45)) (And.intro @sz45 (And.intro @zero45 @Tryd.underlying123)))
def H28Fs96 := (And.intro (And.intro @agg2 @fo45_0) (And.intro @fo45_1 (And.intro @inf2 @sz2)))
abbrev Rt := Nat × Nat
def rtC (w : Rt) : List Value := [.int .i64 (w.1 : Int), .int .i64 (w.2 : Int)]
def ratsC (l : List Rt) : List Value := l.flatMap rtC
theorem ratsC_length (l : List Rt) : (ratsC l).length = l.length * 2 := by
  induction l with
  | nil => rfl
  | cons w l ih => rw [ratsC, List.flatMap_cons, List.length_append, ← ratsC, ih]; simp [rtC]; omega
theorem ratsC_drop : ∀ (l : List Rt) (j : Nat), (ratsC l).drop (j * 2) = ratsC (l.drop j)
  | [], j => by simp [ratsC]
  | w :: l, 0 => by simp
  | w :: l, j + 1 => by
    have := ratsC_drop l j
    rw [show (j + 1) * 2 = j * 2 + 2 by omega]
    simp only [ratsC, List.flatMap_cons, rtC, List.cons_append, List.nil_append, List.drop_succ_cons] at this ⊢
    exact this
theorem ratsC_get (l : List Rt) (j : Nat) (hj : j < l.length) : ((ratsC l).drop (j * 2)).take 2 = rtC l[j] := by
  rw [ratsC_drop, List.drop_eq_getElem_cons hj]
  rfl
theorem ratsC_append (l k : List Rt) : ratsC (l ++ k) = ratsC l ++ ratsC k := by simp [ratsC]
theorem less96 (x y : Rt) (h : Eng.Heap) (hx : x.1 ≤ 1000000 ∧ x.2 ≤ 1000000) (hy : y.1 ≤ 1000000 ∧ y.2 ≤ 1000000) : CallsH Tryd.prog 96 (#[] ++ #[ratV x, ratV y] ++ #[]) h (fun v h' => v = .bool (OV.lessQ x y) ∧ Ext h h') := by
  simp only [Array.append_empty, Array.empty_append]
  have m1 : x.1 * y.2 ≤ 1000000 * 1000000 := Nat.mul_le_mul hx.1 hy.2
  have m2 : y.1 * x.2 ≤ 1000000 * 1000000 := Nat.mul_le_mul hy.1 hx.2
  have e1 : (x.1 : Int) * (y.2 : Int) = ((x.1 * y.2 : Nat) : Int) := by omega
  have e2 : (y.1 : Int) * (x.2 : Int) = ((y.1 * x.2 : Nat) : Int) := by omega
  (refine CallsH_of_exec Tryd.func96 rfl bod96 ?_; simp only [Tryd.ntmps96, Tryd.results96, coreS, stK_some, splice, Value.cells, Value.oneCell', Nat.reduceAdd, Nat.reduceSub, Nat.reduceMul, Nat.reduceLeDiff, Int.reduceEq, Nat.reduceEqDiff, H28Fs96])
  rw [e1, e2]
  refine ⟨by rw [inK_i64]; omega, by rw [inK_i64]; omega, ?_⟩
  refine ⟨?_, ((Ext.refl h).push _).push _⟩
  rw [OV.lessQ]
  congr 1
  rw [decide_eq_decide]
  omega
theorem bestQ_next (x : Rt) (xs : List Rt) {i : Nat} (hi : i < xs.length) : OV.bestQ x (xs.take (i + 1)) = if OV.lessQ xs[i] (OV.bestQ x (xs.take i)) then xs[i] else OV.bestQ x (xs.take i) := by
  rw [List.take_add_one, List.getElem?_eq_getElem hi]
  simp only [OV.bestQ, Option.toList_some, List.foldl_append, List.foldl_cons, List.foldl_nil]
  rfl
theorem bestQ_mem (x : Rt) : ∀ (xs : List Rt), OV.bestQ x xs = x ∨ OV.bestQ x xs ∈ xs := by
  intro xs
  induction xs generalizing x with
  | nil => exact .inl rfl
  | cons y ys ih =>
    simp only [OV.bestQ, List.foldl_cons] at ih ⊢
    split
    · rcases ih y with h | h
      · right; rw [h]; exact List.mem_cons_self
      · right; exact List.mem_cons_of_mem _ h
    · rcases ih x with h | h
      · left; exact h
      · right; exact List.mem_cons_of_mem _ h
theorem best95 (a : Option Addr) (n c : Nat) (x : Rt) (xs : List Rt) (h : Eng.Heap) (hr : Row h a (ratsC (x :: xs))) (hn : n = xs.length + 1) (h1 : 1 ≤ n) (h2 : n ≤ c) (h3 : n ≤ 1000) (hbd : ∀ y ∈ x :: xs, y.1 ≤ 1000000 ∧ y.2 ≤ 1000000) :
    CallsH Tryd.prog 95 #[.slice a n c, .func (.func 96) #[] #[]] h (fun v h' => v = ratV (OV.bestQ x xs) ∧ Ext h h') := by
  have hsm : a.isSome = true := hr.isSome (by rw [ratsC_length]; simp)
  obtain ⟨p, rfl⟩ := Option.isSome_iff_exists.1 hsm
  have c0 : ∀ {hh : Eng.Heap} (y : Ext h hh) (j : Nat) (hj : j < (x :: xs).length), cellsH hh (eltP (some p) (j * 2)) 2 = some [.int .i64 ((x :: xs)[j].1 : Int), .int .i64 ((x :: xs)[j].2 : Int)] := fun y j hj => by
    have := (hr.ext y).cells (j := j * 2) (n := 2) (by rw [ratsC_length]; omega) (by omega)
    rw [this, ratsC_get _ _ hj]; rfl
  have cx : ∀ {hh : Eng.Heap} (y : Ext h hh), cellsH hh (eltP (some p) 0) 2 = some [.int .i64 (x.1 : Int), .int .i64 (x.2 : Int)] := fun y => c0 y 0 (by simp)
  (refine CallsH_of_exec Tryd.func95 rfl bod95 ?_; simp only [Tryd.ntmps95, Tryd.results95, coreS, stK_some, splice, Value.cells, Value.oneCell', Nat.reduceAdd, Nat.reduceSub, Nat.reduceMul, Nat.reduceLeDiff, Int.reduceEq, Nat.reduceEqDiff, H28Fs95])
  have e0 := (Ext.refl h).push (.cells #[.int .i64 0, .int .i64 0] 45)
  have z0 := push_new (h := h) (o := .cells #[.int .i64 0, .int .i64 0] 45)
  simp only [cx e0, splice, coreS, Value.cells, Value.oneCell', Nat.reduceAdd, Nat.reduceSub, Nat.reduceMul, Nat.reduceLeDiff, Int.reduceEq, Nat.reduceEqDiff, H28Fs95]
  refine ⟨by omega, rfl, ?_⟩
  refine stK_abs pn1 (by simp) fun h3 k1 u3 => ?_
  simp only [splice] at k1
  have k0 := u3.get (push_old (o := .cells #[.int .i64 0, .int .i64 0] 45) z0) (by omega)
  have e1 := u3.ext (e0.push (.cells #[.int .i64 0, .int .i64 0] 45)) (by omega)
  have hxl : n = xs.length + 1 := hn
  have ta : ((n : Int) - 1).toNat = xs.length := by omega
  simp only [ta, coreS, Value.cells, Value.oneCell', Nat.reduceAdd, Nat.reduceSub, Nat.reduceMul, Nat.reduceLeDiff, Int.reduceEq, Nat.reduceEqDiff, H28Fs95]
  refine ⟨by omega, by omega, by omega, by omega, ?_⟩
  refine WP_loopI [7, 14, 15, 16, 17, 18, 19, 20, 21, 22, 23] (fun g h' => ∃ i : Nat, i ≤ xs.length ∧ g 14 = .int .i64 (i : Int) ∧ h'[h.size + 1]? = some (.cells #[.int .i64 ((OV.bestQ x (xs.take i)).1 : Int), .int .i64 ((OV.bestQ x (xs.take i)).2 : Int)] 45) ∧ h'[h.size]? = some (.cells #[.int .i64 0, .int .i64 0] 45) ∧ Ext h h') (fun g _ => match g 14 with | .int _ q => xs.length - q.toNat | _ => 0) ⟨0, by omega, rfl, k1, k0, e1⟩ ?_
  rintro g h' ⟨i, hin, hg, g1, g0, y⟩
  by_cases hi : i < xs.length
  · have hcap : ¬ (c : Int) = 1 := by omega
    have hel : eltP (eltP (some p) 2) (i * 2) = eltP (some p) ((i + 1) * 2) := by rw [eltP_eltP (by omega)]; congr 1; omega
    have cy := c0 y (i + 1) (by simp; omega)
    rw [← hel, List.getElem_cons_succ] at cy
    have hs' := lt_of_get g1
    simp only [hg, hcap, if_false, cy, Int.toNat_natCast, Nat.one_mul, splice, coreS, Value.cells, Value.oneCell', Nat.reduceAdd, Nat.reduceSub, Nat.reduceMul, Nat.reduceLeDiff, Int.reduceEq, Nat.reduceEqDiff, H28Fs95]
    refine ⟨fun _ => ⟨⟨by omega, by omega⟩, rfl, ?_⟩, fun hge => absurd hge (by omega)⟩
    refine stK_abs (push_new (h := h') (o := .cells #[.int .i64 0, .int .i64 0] 45)) (by simp) fun h5 g5 u5 => ?_
    simp only [splice] at g5
    have y5 := u5.ext (y.push (.cells #[.int .i64 0, .int .i64 0] 45)) (by have := y.size; omega)
    have j1 := u5.get (push_old (o := .cells #[.int .i64 0, .int .i64 0] 45) g1) (by omega)
    have j0 := u5.get (push_old (o := .cells #[.int .i64 0, .int .i64 0] 45) g0) (by have := y.size; omega)
    simp only [g5, j1, splice, coreS, Value.cells, Value.oneCell', Nat.reduceAdd, Nat.reduceSub, Nat.reduceMul, Nat.reduceLeDiff, Int.reduceEq, Nat.reduceEqDiff, H28Fs95]
    have hbb : (OV.bestQ x (xs.take i)).1 ≤ 1000000 ∧ (OV.bestQ x (xs.take i)).2 ≤ 1000000 := by
      rcases bestQ_mem x (xs.take i) with h | h
      · rw [h]; exact hbd x List.mem_cons_self
      · exact hbd _ (List.mem_cons_of_mem _ (List.mem_of_mem_take h))
    refine CallsH.mono (less96 xs[i] (OV.bestQ x (xs.take i)) h5 (hbd _ (List.mem_cons_of_mem _ (List.getElem_mem hi))) hbb) ?_
    rintro v h6 ⟨rfl, x6⟩
    have hbn := bestQ_next x xs hi
    cases hlt : OV.lessQ xs[i] (OV.bestQ x (xs.take i)) with
    | true =>
      rw [hlt, if_pos rfl] at hbn
      simp only [hlt, decide_true, x6.get g5, x6.get j1, splice, coreS, Value.cells, Value.oneCell', Nat.reduceAdd, Nat.reduceSub, Nat.reduceMul, Nat.reduceLeDiff, Int.reduceEq, Nat.reduceEqDiff, H28Fs95]
      refine stK_abs (x6.get j1) (by simp) fun h7 g7 u7 => ?_
      simp only [splice] at g7
      simp only [coreS, Value.cells, Value.oneCell', Nat.reduceAdd, Nat.reduceSub, Nat.reduceMul, Nat.reduceLeDiff, Int.reduceEq, Nat.reduceEqDiff, H28Fs95]
      refine ⟨by rw [inK_i64]; omega, roundK_mk (by kernel_rfl) ⟨i + 1, by omega, rfl, by rw [hbn]; exact g7, u7.get (x6.get j0) (by omega), u7.ext (y5.trans x6) (by omega)⟩ ?_⟩
      show xs.length - ((i : Int) + 1).toNat < xs.length - (i : Int).toNat
      omega
    | false =>
      rw [hlt, if_neg (by decide)] at hbn
      simp only [hlt, decide_false, coreS, Value.cells, Value.oneCell', Nat.reduceAdd, Nat.reduceSub, Nat.reduceMul, Nat.reduceLeDiff, Int.reduceEq, Nat.reduceEqDiff, H28Fs95]
      refine ⟨by rw [inK_i64]; omega, roundK_mk (by kernel_rfl) ⟨i + 1, by omega, rfl, by rw [hbn]; exact x6.get j1, x6.get j0, y5.trans x6⟩ ?_⟩
      show xs.length - ((i : Int) + 1).toNat < xs.length - (i : Int).toNat
      omega
  · obtain rfl : i = xs.length := by omega
    rw [List.take_of_length_le (Nat.le_refl _)] at g1
    simp only [hg, g1, g0, splice, coreS, Value.cells, Value.oneCell', Nat.reduceAdd, Nat.reduceSub, Nat.reduceMul, Nat.reduceLeDiff, Int.reduceEq, Nat.reduceEqDiff, H28Fs95]
    refine ⟨fun hlt => absurd hlt (by omega), fun _ => ?_⟩
    refine stK_abs g0 (by simp) fun h5 g5 u5 => ?_
    simp only [splice] at g5
    simp only [g5, splice, coreS, Value.cells, Value.oneCell', Nat.reduceAdd, Nat.reduceSub, Nat.reduceMul, Nat.reduceLeDiff, Int.reduceEq, Nat.reduceEqDiff, H28Fs95]
    exact u5.ext y (Nat.le_refl _)
end Go.Proofs.YtafemfjhflfdeaaDoor
end
