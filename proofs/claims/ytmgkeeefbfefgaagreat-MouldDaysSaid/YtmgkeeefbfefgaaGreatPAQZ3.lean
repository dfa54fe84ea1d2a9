/- Walks of the document: chained, ChainOf. -/
import Derived.Test.YtmgkeeefbfefgaaGreatPAQZ2
import Derived.Test.YtmgkeeefbfefgaaGreatPA12
namespace Go.Proofs.YtmgkeeefbfefgaaGreat
open Go Go.Proofs Go.Eng Go.Run Tab
set_option maxRecDepth 100000
set_option linter.unusedSimpArgs false
set_option linter.unusedVariables false
set_option linter.defProp false
set_option maxHeartbeats 4000000
set_option linter.defProp false
def Z3Fs35 := (And.intro (And.intro (And.intro @agg24 @agg3) (And.intro @by3 @inf24)) (And.intro (And.intro @inf3 @sz24) (And.intro @sz3 @Tryz.underlying25)))
def Z3Fs36 := (And.intro (And.intro (And.intro @agg24 @agg3) (And.intro @by3 @inf24)) (And.intro (And.intro @inf3 @sz24) (And.intro @sz3 (And.intro @zero3 @Tryz.underlying25))))
theorem gq_noneZ {P : Program} {R : Eng.Heap → Eng.Heap → Prop} {s : Tmp} {w : Bool} {op : Op} {ty : TypeId} {all : List Oper} {rest : List (Nat × Nat)} {k : Cont} {dst : Option Tmp} {e : Env} {d : List Deferred} {h : Eng.Heap} : gq P R undef s w op ty all rest k dst e d h = execD P R all rest k (putE e dst undef) d h := gq_undef
theorem chained35 (S M : Int) (a : Option Addr) (n c : Nat) (ws : List Wn) (b : Option Addr) (m k : Nat) (days : List Int) (want day : Int) (h : Eng.Heap) (hr : Row h a (wsV ws)) (hn : n = ws.length) (hl : n ≤ 1000000) (hd : IntsV h b m days) (hm : m ≤ 1000000) (hmk : m ≤ k) :
    CallsH Tryz.prog 35 #[.agg #[.int .i64 S, .int .i64 M, .slice a n c], .slice b m k, .int .i64 want, .int .i64 day] h (fun v h' => v = .int .i64 (chnE S M ws days want day) ∧ Ext h h') := by
  have hml := hd.len
  (refine CallsH_of_exec Tryz.func35 rfl bod35 ?_; simp only [Tryz.ntmps35, Tryz.results35, coreS, stK_some, splice, Value.cells, Value.oneCell', Nat.reduceAdd, Nat.reduceSub, Nat.reduceMul, Nat.reduceLeDiff, Int.reduceEq, Nat.reduceEqDiff, Z3Fs35])
  have x0 : Ext h (h.push (.cells #[.int .i64 S, .int .i64 M, .slice a n c] 24)) := (Ext.refl h).push _
  have fin : ∀ {e : Int} {h' : Eng.Heap}, chnE S M ws days want day = e → Ext h h' → Value.int .i64 e = Value.int .i64 (chnE S M ws days want day) ∧ Ext h h' := fun h1 x => ⟨by rw [h1], x⟩
  refine CallsH.mono (checkDays21 S M a n c ws b m k days _ (hr.ext x0) hn hl (hd.ext x0) hm hmk) ?_
  rintro v h1 ⟨rfl, x1⟩
  have y1 := x0.trans x1
  by_cases hD : chkD S M ws days = 0
  case neg =>
    simp only [hD, decide_false, Bool.not_false, coreS, Value.cells, Value.oneCell', Nat.reduceAdd, Nat.reduceSub, Nat.reduceMul, Nat.reduceLeDiff, Int.reduceEq, Nat.reduceEqDiff, Z3Fs35]
    exact fin (by unfold chnE; rw [if_pos hD]) y1
  by_cases t1 : want < 0
  · simp only [hD, t1, decide_true, Bool.not_true, gd_noneZ, coreS, Value.cells, Value.oneCell', Nat.reduceAdd, Nat.reduceSub, Nat.reduceMul, Nat.reduceLeDiff, Int.reduceEq, Nat.reduceEqDiff, Z3Fs35]
    exact fin (by unfold chnE; rw [if_neg (by simpa using hD), if_pos (by omega)]) y1
  by_cases t2 : (m : Int) ≤ want
  · simp only [hD, t1, t2, decide_true, decide_false, Bool.not_true, gd_noneZ, coreS, Value.cells, Value.oneCell', Nat.reduceAdd, Nat.reduceSub, Nat.reduceMul, Nat.reduceLeDiff, Int.reduceEq, Nat.reduceEqDiff, Z3Fs35]
    exact fin (by unfold chnE; rw [if_neg (by simpa using hD), if_pos (by omega)]) y1
  have hw : ¬ ¬ (0 ≤ want ∧ want < days.length) := by omega
  by_cases t3 : day < 0
  · simp only [hD, t1, t2, t3, decide_true, decide_false, Bool.not_true, gd_noneZ, coreS, Value.cells, Value.oneCell', Nat.reduceAdd, Nat.reduceSub, Nat.reduceMul, Nat.reduceLeDiff, Int.reduceEq, Nat.reduceEqDiff, Z3Fs35]
    exact fin (by unfold chnE; rw [if_neg (by simpa using hD), if_neg hw, if_pos (by omega)]) y1
  by_cases t4 : 13 < day
  · simp only [hD, t1, t2, t3, t4, decide_true, decide_false, Bool.not_true, gd_noneZ, coreS, Value.cells, Value.oneCell', Nat.reduceAdd, Nat.reduceSub, Nat.reduceMul, Nat.reduceLeDiff, Int.reduceEq, Nat.reduceEqDiff, Z3Fs35]
    exact fin (by unfold chnE; rw [if_neg (by simpa using hD), if_neg hw, if_pos (by omega)]) y1
  have hdy : ¬ ¬ (0 ≤ day ∧ day ≤ 13) := by omega
  have hd1 := hd.ext y1
  have c1 := hd1.cell (j := want.toNat) (by omega)
  have sb := hd1.isSome (by omega)
  by_cases t5 : days.getD want.toNat 0 = day
  · simp only [hD, t1, t2, t3, t4, t5, c1, decide_true, decide_false, Bool.not_true, gd_noneZ, coreS, Value.cells, Value.oneCell', Nat.reduceAdd, Nat.reduceSub, Nat.reduceMul, Nat.reduceLeDiff, Int.reduceEq, Nat.reduceEqDiff, Z3Fs35]
    refine ⟨by omega, sb, ?_⟩
    exact fin (by unfold chnE; rw [if_neg (by simpa using hD), if_neg hw, if_neg hdy, if_pos t5]) y1
  · simp only [hD, t1, t2, t3, t4, t5, c1, decide_true, decide_false, Bool.not_true, gd_noneZ, coreS, Value.cells, Value.oneCell', Nat.reduceAdd, Nat.reduceSub, Nat.reduceMul, Nat.reduceLeDiff, Int.reduceEq, Nat.reduceEqDiff, Z3Fs35]
    refine ⟨by omega, sb, ?_⟩
    exact fin (by unfold chnE; rw [if_neg (by simpa using hD), if_neg hw, if_neg hdy, if_neg t5]) y1
/-- Marks, as numbers. -/
def btL (T : Nat → Bool) (n : Nat) : List Int := (List.range n).map fun x => if T x then (1 : Int) else 0
theorem btL_length {T : Nat → Bool} {n : Nat} : (btL T n).length = n := by simp [btL]
theorem btL_get {T : Nat → Bool} {n x : Nat} (hx : x < n) : (btL T n).getD x 0 = if T x then 1 else 0 := by
  simp [btL, List.getD_eq_getElem?_getD, hx]
theorem btL_congr {T U : Nat → Bool} {n : Nat} (h : ∀ x, x < n → T x = U x) : btL T n = btL U n := by
  unfold btL
  refine List.map_congr_left fun x hx => ?_
  rw [h x (List.mem_range.1 hx)]
theorem btL_set {T U : Nat → Bool} {n i : Nat} (hi : i < n) (h1 : U i = true) (h2 : ∀ x, x < n → x ≠ i → U x = T x) : (btL T n).set i 1 = btL U n := by
  refine List.ext_getElem (by simp [btL]) fun x a1 a2 => ?_
  have hx : x < n := by simpa [btL] using a2
  rw [List.getElem_set]
  simp only [btL, List.getElem_map, List.getElem_range]
  by_cases e : i = x
  · subst e; simp [h1]
  · rw [if_neg e, h2 x hx (fun h => e h.symm)]
theorem btL_zero {n : Nat} : List.replicate n (Value.int .i64 0) = Eng.ints (btL (fun _ => false) n) := by
  refine List.ext_getElem (by simp [Eng.ints, btL]) fun i h1 h2 => ?_
  simp [Eng.ints, btL]
section kst
variable (sh mo C : Nat → Nat) (w d : Nat) (T : Nat → Bool) (i : Nat)
def ksP (k : Nat) : Bool := T k && !(i == k) && MB.clash sh mo i k && (C i == C w || C i == d)
def kst (k : Nat) : Nat → Bool := fun x => if x = i then T i || (List.range k).any (ksP sh mo C w d T i) else T x
variable {sh mo C w d T i}
theorem kst_zero (x : Nat) : kst sh mo C w d T i 0 x = T x := by
  unfold kst
  by_cases e : x = i
  · subst e; simp
  · rw [if_neg e]
theorem kst_end {n : Nat} : kst sh mo C w d T i n = MB.cst sh mo C n w d T i := rfl
theorem kst_i (k : Nat) : kst sh mo C w d T i k i = (T i || (List.range k).any (ksP sh mo C w d T i)) := by unfold kst; rw [if_pos rfl]
theorem kst_ne {k x : Nat} (h : x ≠ i) : kst sh mo C w d T i k x = T x := by unfold kst; rw [if_neg h]
theorem kst_no {k : Nat} (h : ksP sh mo C w d T i k = false) (x : Nat) : kst sh mo C w d T i (k + 1) x = kst sh mo C w d T i k x := by
  by_cases e : x = i
  · subst e; rw [kst_i, kst_i]; simp [List.range_succ, h]
  · rw [kst_ne e, kst_ne e]
theorem kst_yes {k : Nat} (h : ksP sh mo C w d T i k = true) : kst sh mo C w d T i (k + 1) i = true := by
  rw [kst_i]; simp [List.range_succ, h]
end kst
theorem chainOf36 (S M : Nat) (a : Option Addr) (n c : Nat) (ws : List Wn) (b : Option Addr) (m k : Nat) (days : List Int) (w d : Nat) (h : Eng.Heap) (hr : Row h a (wsV ws)) (hn : n = ws.length) (V : Vb S M ws) (hd : IntsV h b m days) (hD : chkD S M ws days = 0) (hw : w < n) (hd14 : d < 14) :
    CallsH Tryz.prog 36 #[.agg #[.int .i64 S, .int .i64 M, .slice a n c], .slice b m k, .int .i64 w, .int .i64 d] h (fun v h' => (∃ a' c', v = .slice a' (chnL ws days w d).length c' ∧ IntsV h' a' (chnL ws days w d).length (zsN (chnL ws days w d))) ∧ Ext h h') := by
  have hml := hd.len
  have hV := V.n
  obtain ⟨c1, c2, c3, c4⟩ := chkD_ok hD
  have hall := inB_iff.1 c3
  obtain ⟨C, hC⟩ : ∃ C : Nat → Nat, C = fun i => (natL days).getD i 0 := ⟨_, rfl⟩
  have hCd : ∀ i, i < m → days.getD i 0 = (C i : Nat) := fun i hi => by
    have e1 : C i = (natL days).getD i 0 := by rw [hC]
    rw [e1, natL_get]
    have hm : days.getD i 0 ∈ days := by
      have : i < days.length := by omega
      simp [List.getD, List.getElem?_eq_getElem this]
    have := hall _ hm
    omega
  have hL : chnL ws days w d = (List.range ws.length).filter (MB.cit (shN ws) (moN ws) C ws.length w d ws.length) := by
    unfold chnL
    rw [Int.toNat_natCast, Int.toNat_natCast, hC]
  have hmn : m = n := by omega
  subst hmn
  refine CallsH_of_exec Tryz.func36 rfl bod36 ?_
  simp only [Tryz.ntmps36, Tryz.results36, coreS, Value.cells, Value.oneCell', Nat.reduceAdd, Nat.reduceSub, Nat.reduceMul, Nat.reduceLeDiff, Int.reduceEq, Nat.reduceEqDiff, Z3Fs36]
  have x0 : Ext h (h.push (.cells #[.int .i64 S, .int .i64 M, .slice a m c] 24)) := (Ext.refl h).push _
  have q0 := push_new (h := h) (o := .cells #[.int .i64 S, .int .i64 M, .slice a m c] 24)
  have z0 : (h.push (.cells #[.int .i64 S, .int .i64 M, .slice a m c] 24)).size = h.size + 1 := push_size
  generalize h.push (.cells #[.int .i64 S, .int .i64 M, .slice a m c] 24) = hh at x0 q0 z0 ⊢
  simp only [z0, List.flatten_replicate_singleton, coreS, Value.cells, Value.oneCell', Nat.reduceAdd, Nat.reduceSub, Nat.reduceMul, Nat.reduceLeDiff, Int.reduceEq, Nat.reduceEqDiff, Z3Fs36]
  refine ⟨by omega, by omega, by omega, by omega, by omega, rfl, ?_⟩
  rw [btL_zero]
  have p0 : (hh.push (.cells (Eng.ints (btL (fun _ => false) m)).toArray 3))[h.size + 1]? = some (.cells (Eng.ints (btL (fun _ => false) m)).toArray 3) := by rw [← z0]; exact push_new
  have xp : Ext h (hh.push (.cells (Eng.ints (btL (fun _ => false) m)).toArray 3)) := x0.push _
  have qp := push_old (o := .cells (Eng.ints (btL (fun _ => false) m)).toArray 3) q0
  generalize hh.push (.cells (Eng.ints (btL (fun _ => false) m)).toArray 3) = h1 at p0 xp qp ⊢
  refine stK_abs (c := Eng.ints (btL (fun _ => false) m)) (off := w) (vs := [.int .i64 1]) p0 (by rw [Eng.ints_length, btL_length]; simp; omega) fun h2 g2 u2 => ?_
  rw [splice_one _ _ _ (by rw [Eng.ints_length, btL_length]; exact hw), Eng.ints_set, btL_set (U := MB.cit (shN ws) (moN ws) C m w d 0) hw (by simp [MB.cit]) (fun x _ hx => by simp [MB.cit, hx])] at g2
  have x2 : Ext h h2 := u2.ext xp (by omega)
  have q2 := u2.get qp (by omega)
  clear p0 xp qp u2
  have hcl : ∀ T i k, ksP (shN ws) (moN ws) C w d T i k = true ↔ (T k = true ∧ i ≠ k) ∧ MB.clash (shN ws) (moN ws) i k = true ∧ (C i = C w ∨ C i = d) := fun T i k => by
    simp only [ksP, Bool.and_eq_true, Bool.or_eq_true, beq_iff_eq, Bool.not_eq_true', beq_eq_false_iff_ne]
    constructor
    · rintro ⟨⟨⟨a1, a2⟩, a3⟩, a4⟩; exact ⟨⟨a1, a2⟩, a3, a4⟩
    · rintro ⟨⟨a1, a2⟩, a3, a4⟩; exact ⟨⟨⟨a1, a2⟩, a3⟩, a4⟩
  simp only [coreS, Value.cells, Value.oneCell', Nat.reduceAdd, Nat.reduceSub, Nat.reduceMul, Nat.reduceLeDiff, Int.reduceEq, Nat.reduceEqDiff, Z3Fs36]
  refine WP_loopI [10, 11, 12, 21, 22, 23, 24, 25, 26, 27, 28, 29, 30, 31, 32, 33, 34, 35, 36, 37, 38, 39, 40, 41, 42, 43, 44, 45, 46, 47, 48, 49, 50, 51, 52, 53, 54, 55, 56, 57, 58, 59, 60, 61, 62, 63, 64, 65, 66, 67, 68, 69, 70, 71, 72, 73, 74, 75, 76] (fun e h' => Ext h h' ∧ h'[h.size]? = some (.cells #[.int .i64 S, .int .i64 M, .slice a m c] 24) ∧ ∃ r : Nat, r ≤ m ∧ e 10 = .int .i64 r ∧ h'[h.size + 1]? = some (.cells (Eng.ints (btL (MB.cit (shN ws) (moN ws) C m w d r) m)).toArray 3)) (fun e _ => match e 10 with | .int _ q => m - q.toNat | _ => 0) ⟨x2, q2, 0, by omega, rfl, g2⟩ ?_
  rintro e1 h3 ⟨x3, q3, r, hr0, he1, g3⟩
  by_cases hrm : r < m
  · have hlt : (r : Int) < (m : Int) := by omega
    have meas1 : m - ((r : Int) + 1).toNat < m - (r : Int).toNat := by omega
    simp only [he1, hlt, decide_true, coreS, Value.cells, Value.oneCell', Nat.reduceAdd, Nat.reduceSub, Nat.reduceMul, Nat.reduceLeDiff, Int.reduceEq, Nat.reduceEqDiff, Z3Fs36]
    refine WP_loopI [11, 12, 27, 28, 29, 30, 31, 32, 33, 34, 35, 36, 37, 38, 39, 40, 41, 42, 43, 44, 45, 46, 47, 48, 49, 50, 51, 52, 53, 54, 55, 56, 57, 58, 59, 60, 61, 62, 63, 64, 65, 66, 67, 68, 69, 70, 71, 72, 73, 74, 75, 76] (fun e h' => Ext h h' ∧ h'[h.size]? = some (.cells #[.int .i64 S, .int .i64 M, .slice a m c] 24) ∧ ∃ i : Nat, i ≤ m ∧ e 11 = .int .i64 i ∧ h'[h.size + 1]? = some (.cells (Eng.ints (btL (MB.cps (shN ws) (moN ws) C m w d (MB.cit (shN ws) (moN ws) C m w d r) i) m)).toArray 3)) (fun e _ => match e 11 with | .int _ q => m - q.toNat | _ => 0) ⟨x3, q3, 0, by omega, rfl, g3⟩ ?_
    rintro e2 h4 ⟨x4, q4, i, hi0, he2, g4⟩
    by_cases him : i < m
    · have hlt2 : (i : Int) < (m : Int) := by omega
      have meas2 : m - ((i : Int) + 1).toNat < m - (i : Int).toNat := by omega
      obtain ⟨T, hT⟩ : ∃ T, T = MB.cps (shN ws) (moN ws) C m w d (MB.cit (shN ws) (moN ws) C m w d r) i := ⟨_, rfl⟩
      have hT1 : MB.cps (shN ws) (moN ws) C m w d (MB.cit (shN ws) (moN ws) C m w d r) (i + 1) = kst (shN ws) (moN ws) C w d T i m := by rw [hT]; rfl
      rw [← hT, btL_congr (U := kst (shN ws) (moN ws) C w d T i 0) fun x _ => (kst_zero x).symm] at g4
      simp only [he2, hlt2, decide_true, coreS, Value.cells, Value.oneCell', Nat.reduceAdd, Nat.reduceSub, Nat.reduceMul, Nat.reduceLeDiff, Int.reduceEq, Nat.reduceEqDiff, Z3Fs36]
      refine WP_loopI [12, 33, 34, 35, 36, 37, 38, 39, 40, 41, 42, 43, 44, 45, 46, 47, 48, 49, 50, 51, 52, 53, 54, 55, 56, 57, 58, 59, 60, 61, 62, 63, 64, 65, 66, 67, 68, 69, 70, 71, 72, 73, 74, 75, 76] (fun e h' => Ext h h' ∧ h'[h.size]? = some (.cells #[.int .i64 S, .int .i64 M, .slice a m c] 24) ∧ ∃ t : Nat, t ≤ m ∧ e 12 = .int .i64 t ∧ h'[h.size + 1]? = some (.cells (Eng.ints (btL (kst (shN ws) (moN ws) C w d T i t) m)).toArray 3)) (fun e _ => match e 12 with | .int _ q => m - q.toNat | _ => 0) ⟨x4, q4, 0, by omega, rfl, g4⟩ ?_
      rintro e3 h5 ⟨x5, q5, t, ht0, he3, g5⟩
      by_cases htm : t < m
      · have hlt3 : (t : Int) < (m : Int) := by omega
        have meas3 : m - ((t : Int) + 1).toNat < m - (t : Int).toNat := by omega
        have ib : IntsV h5 (some ⟨h.size + 1, 0, none⟩) m (btL (kst (shN ws) (moN ws) C w d T i t) m) := by
          have := IntsV.block (xs := btL (kst (shN ws) (moN ws) C w d T i t) m) g5
          rwa [btL_length] at this
        have c5 := ib.cell (j := t) (by rw [btL_length]; exact htm)
        rw [btL_get htm, eltP_some, cellH_eq, Nat.zero_add] at c5
        have no : ksP (shN ws) (moN ws) C w d T i t = false → ∀ h', Ext h5 h' → h'[h.size + 1]? = some (.cells (Eng.ints (btL (kst (shN ws) (moN ws) C w d T i (t + 1)) m)).toArray 3) := fun hk h' x => by
          rw [btL_congr fun y _ => kst_no hk y]; exact x.get g5
        simp only [he3, hlt3, decide_true, coreS, Value.cells, Value.oneCell', Nat.reduceAdd, Nat.reduceSub, Nat.reduceMul, Nat.reduceLeDiff, Int.reduceEq, Nat.reduceEqDiff, Z3Fs36]
        refine WP_draw (by kernel_rfl) sta_ext [(0, 0), (1, 0), (2, 0), (3, 0), (4, 0), (5, 0), (6, 0), (7, 0), (8, 0), (9, 0), (10, 0), (11, 0), (12, 0), (13, 0), (14, 0), (15, 0), (16, 0), (17, 0), (18, 0), (19, 0), (20, 0), (21, 0), (22, 0), (23, 0), (24, 0), (25, 0), (26, 0), (27, 0), (28, 0), (29, 0), (30, 0), (31, 0), (32, 0), (33, 0), (34, 0)] (by kernel_rfl) rfl (by kernel_rfl) ?_
        cases hbit : kst (shN ws) (moN ws) C w d T i t t with
        | false =>
          have hk : ksP (shN ws) (moN ws) C w d T i t = false := by
            cases h : ksP (shN ws) (moN ws) C w d T i t with
            | false => rfl
            | true =>
              have h1 := ((hcl T i t).1 h).1
              rw [kst_ne (fun e => h1.2 e.symm), h1.1] at hbit; cases hbit
          rw [hbit, if_neg (by decide)] at c5
          simp only [he3, q5, c5, decide_false, gq_noneZ, Int.toNat_natCast, coreS, Value.cells, Value.oneCell', Nat.reduceAdd, Nat.reduceSub, Nat.reduceMul, Nat.reduceLeDiff, Int.reduceEq, Nat.reduceEqDiff, drawS, Z3Fs36]
          refine ⟨by omega, rfl, ?_⟩
          refine hvK_mk fun h6 x6 => ?_
          simp only [he3, coreS, Value.cells, Value.oneCell', Nat.reduceAdd, Nat.reduceSub, Nat.reduceMul, Nat.reduceLeDiff, Int.reduceEq, Nat.reduceEqDiff, Z3Fs36]
          exact ⟨by rw [inK_i64]; omega, roundK_mk (by kernel_rfl) ⟨x5.trans x6, x6.get q5, t + 1, by omega, rfl, no hk h6 x6⟩ meas3⟩
        | true =>
        rw [hbit, if_pos rfl] at c5
        by_cases hti : (i : Int) = (t : Int)
        · have hk : ksP (shN ws) (moN ws) C w d T i t = false := by
            cases h : ksP (shN ws) (moN ws) C w d T i t with
            | false => rfl
            | true => exact absurd (by omega) (((hcl T i t).1 h).1.2)
          simp only [he3, q5, c5, hti, decide_true, decide_false, Bool.not_true, gq_noneZ, Int.toNat_natCast, coreS, Value.cells, Value.oneCell', Nat.reduceAdd, Nat.reduceSub, Nat.reduceMul, Nat.reduceLeDiff, Int.reduceEq, Nat.reduceEqDiff, drawS, Z3Fs36]
          refine ⟨by omega, rfl, ?_⟩
          refine hvK_mk fun h6 x6 => ?_
          simp only [he3, coreS, Value.cells, Value.oneCell', Nat.reduceAdd, Nat.reduceSub, Nat.reduceMul, Nat.reduceLeDiff, Int.reduceEq, Nat.reduceEqDiff, Z3Fs36]
          exact ⟨by rw [inK_i64]; omega, roundK_mk (by kernel_rfl) ⟨x5.trans x6, x6.get q5, t + 1, by omega, rfl, no hk h6 x6⟩ meas3⟩
        have hTt : T t = true := (kst_ne (sh := shN ws) (mo := moN ws) (C := C) (w := w) (d := d) (T := T) (i := i) (k := t) (x := t) (by omega)).symm.trans hbit
        simp only [he3, q5, c5, hti, decide_true, decide_false, Bool.not_false, gq_noneZ, Int.toNat_natCast, coreS, Value.cells, Value.oneCell', Nat.reduceAdd, Nat.reduceSub, Nat.reduceMul, Nat.reduceLeDiff, Int.reduceEq, Nat.reduceEqDiff, drawS, Z3Fs36]
        refine ⟨by omega, rfl, ?_⟩
        refine cQ_ext _ (fun h' x' => clash79 S M a m c ws i t h' (hr.ext (x5.trans x')) hn V (by omega) (by omega)) ?_
        cases hca : MB.clash (shN ws) (moN ws) i t with
        | false =>
          have hk : ksP (shN ws) (moN ws) C w d T i t = false := by
            cases h : ksP (shN ws) (moN ws) C w d T i t with
            | false => rfl
            | true => have := ((hcl T i t).1 h).2.1; rw [hca] at this; cases this
          simp only [he3, q5, decide_true, decide_false, gq_noneZ, Int.toNat_natCast, coreS, Value.cells, Value.oneCell', Nat.reduceAdd, Nat.reduceSub, Nat.reduceMul, Nat.reduceLeDiff, Int.reduceEq, Nat.reduceEqDiff, drawS, Z3Fs36]
          refine hvK_mk fun h6 x6 => ?_
          simp only [he3, coreS, Value.cells, Value.oneCell', Nat.reduceAdd, Nat.reduceSub, Nat.reduceMul, Nat.reduceLeDiff, Int.reduceEq, Nat.reduceEqDiff, Z3Fs36]
          exact ⟨by rw [inK_i64]; omega, roundK_mk (by kernel_rfl) ⟨x5.trans x6, x6.get q5, t + 1, by omega, rfl, no hk h6 x6⟩ meas3⟩
        | true =>
        have hd5 := hd.ext x5
        have ci := hd5.cell (j := i) (by omega)
        have cw := hd5.cell (j := w) (by omega)
        have sb := hd5.isSome (by omega)
        rw [hCd i (by omega)] at ci
        rw [hCd w (by omega)] at cw
        have putk : (C i = C w ∨ C i = d) → ∀ h6 h7, Ext h5 h6 → h7[h.size + 1]? = some (.cells (splice (Eng.ints (btL (kst (shN ws) (moN ws) C w d T i t) m)) i [.int .i64 1]).toArray 3) → Upd h6 h7 (h.size + 1) → Ext h h7 ∧ h7[h.size]? = some (.cells #[.int .i64 S, .int .i64 M, .slice a m c] 24) ∧ h7[h.size + 1]? = some (.cells (Eng.ints (btL (kst (shN ws) (moN ws) C w d T i (t + 1)) m)).toArray 3) := fun hh h6 h7 x6 g7 u7 => by
          have hk : ksP (shN ws) (moN ws) C w d T i t = true := (hcl T i t).2 ⟨⟨hTt, by omega⟩, hca, hh⟩
          rw [splice_one _ _ _ (by rw [Eng.ints_length, btL_length]; exact him), Eng.ints_set, btL_set (U := kst (shN ws) (moN ws) C w d T i (t + 1)) him (kst_yes hk) (fun y _ hy => by rw [kst_ne hy, kst_ne hy])] at g7
          exact ⟨u7.ext (x5.trans x6) (by omega), u7.get (x6.get q5) (by omega), g7⟩
        by_cases h1 : ((C i : Nat) : Int) = (C w : Nat)
        · simp only [he3, q5, ci, cw, h1, decide_true, decide_false, gq_noneZ, Int.toNat_natCast, coreS, Value.cells, Value.oneCell', Nat.reduceAdd, Nat.reduceSub, Nat.reduceMul, Nat.reduceLeDiff, Int.reduceEq, Nat.reduceEqDiff, drawS, Z3Fs36]
          refine ⟨by omega, sb, by omega, sb, ?_⟩
          refine hvK_mk fun h6 x6 => ?_
          have g6 := x6.get g5
          simp only [he3, g6, Int.toNat_natCast, coreS, Value.cells, Value.oneCell', Nat.reduceAdd, Nat.reduceSub, Nat.reduceMul, Nat.reduceLeDiff, Int.reduceEq, Nat.reduceEqDiff, Z3Fs36]
          refine ⟨by omega, rfl, ?_⟩
          refine stK_abs g6 (by rw [Eng.ints_length, btL_length]; simp; omega) fun h7 g7 u7 => ?_
          obtain ⟨a1, a2, a3⟩ := putk (.inl (by omega)) h6 h7 x6 g7 u7
          simp only [he3, coreS, Value.cells, Value.oneCell', Nat.reduceAdd, Nat.reduceSub, Nat.reduceMul, Nat.reduceLeDiff, Int.reduceEq, Nat.reduceEqDiff, Z3Fs36]
          exact ⟨by rw [inK_i64]; omega, roundK_mk (by kernel_rfl) ⟨a1, a2, t + 1, by omega, rfl, a3⟩ meas3⟩
        by_cases h2 : ((C i : Nat) : Int) = (d : Int)
        · have h1' : ¬ ((d : Nat) : Int) = (C w : Nat) := by omega
          simp only [he3, q5, ci, cw, h1, h1', h2, decide_true, decide_false, gq_noneZ, Int.toNat_natCast, coreS, Value.cells, Value.oneCell', Nat.reduceAdd, Nat.reduceSub, Nat.reduceMul, Nat.reduceLeDiff, Int.reduceEq, Nat.reduceEqDiff, drawS, Z3Fs36]
          refine ⟨by omega, sb, by omega, sb, by omega, sb, ?_⟩
          refine hvK_mk fun h6 x6 => ?_
          have g6 := x6.get g5
          simp only [he3, g6, Int.toNat_natCast, coreS, Value.cells, Value.oneCell', Nat.reduceAdd, Nat.reduceSub, Nat.reduceMul, Nat.reduceLeDiff, Int.reduceEq, Nat.reduceEqDiff, Z3Fs36]
          refine ⟨by omega, rfl, ?_⟩
          refine stK_abs g6 (by rw [Eng.ints_length, btL_length]; simp; omega) fun h7 g7 u7 => ?_
          obtain ⟨a1, a2, a3⟩ := putk (.inr (by omega)) h6 h7 x6 g7 u7
          simp only [he3, coreS, Value.cells, Value.oneCell', Nat.reduceAdd, Nat.reduceSub, Nat.reduceMul, Nat.reduceLeDiff, Int.reduceEq, Nat.reduceEqDiff, Z3Fs36]
          exact ⟨by rw [inK_i64]; omega, roundK_mk (by kernel_rfl) ⟨a1, a2, t + 1, by omega, rfl, a3⟩ meas3⟩
        · have hk : ksP (shN ws) (moN ws) C w d T i t = false := by
            cases h : ksP (shN ws) (moN ws) C w d T i t with
            | false => rfl
            | true => have := ((hcl T i t).1 h).2.2; omega
          simp only [he3, q5, ci, cw, h1, h2, decide_true, decide_false, gq_noneZ, Int.toNat_natCast, coreS, Value.cells, Value.oneCell', Nat.reduceAdd, Nat.reduceSub, Nat.reduceMul, Nat.reduceLeDiff, Int.reduceEq, Nat.reduceEqDiff, drawS, Z3Fs36]
          refine ⟨by omega, sb, by omega, sb, by omega, sb, ?_⟩
          refine hvK_mk fun h6 x6 => ?_
          simp only [he3, coreS, Value.cells, Value.oneCell', Nat.reduceAdd, Nat.reduceSub, Nat.reduceMul, Nat.reduceLeDiff, Int.reduceEq, Nat.reduceEqDiff, Z3Fs36]
          exact ⟨by rw [inK_i64]; omega, roundK_mk (by kernel_rfl) ⟨x5.trans x6, x6.get q5, t + 1, by omega, rfl, no hk h6 x6⟩ meas3⟩
      obtain rfl : t = m := by omega
      simp only [he2, he3, show ¬ ((t : Int) < (t : Int)) by omega, decide_false, coreS, Value.cells, Value.oneCell', Nat.reduceAdd, Nat.reduceSub, Nat.reduceMul, Nat.reduceLeDiff, Int.reduceEq, Nat.reduceEqDiff, Z3Fs36]
      exact ⟨by rw [inK_i64]; omega, roundK_mk (by kernel_rfl) ⟨x5, q5, i + 1, by omega, rfl, by rw [hT1]; exact g5⟩ meas2⟩
    obtain rfl : i = m := by omega
    simp only [he1, he2, show ¬ ((i : Int) < (i : Int)) by omega, decide_false, coreS, Value.cells, Value.oneCell', Nat.reduceAdd, Nat.reduceSub, Nat.reduceMul, Nat.reduceLeDiff, Int.reduceEq, Nat.reduceEqDiff, Z3Fs36]
    exact ⟨by rw [inK_i64]; omega, roundK_mk (by kernel_rfl) ⟨x4, q4, r + 1, by omega, rfl, g4⟩ meas1⟩
  obtain rfl : r = m := by omega
  simp only [he1, show ¬ ((r : Int) < (r : Int)) by omega, decide_false, coreS, Value.cells, Value.oneCell', Nat.reduceAdd, Nat.reduceSub, Nat.reduceMul, Nat.reduceLeDiff, Int.reduceEq, Nat.reduceEqDiff, Z3Fs36]
  obtain ⟨T, hT⟩ : ∃ T, T = MB.cit (shN ws) (moN ws) C r w d r := ⟨_, rfl⟩
  rw [← hn, ← hT] at hL
  rw [← hT] at g3
  have ib : IntsV h3 (some ⟨h.size + 1, 0, none⟩) r (btL T r) := by
    have := IntsV.block (xs := btL T r) g3
    rwa [btL_length] at this
  have Ln : ∀ i, (List.range (i + 1)).filter T = (List.range i).filter T ++ if T i then [i] else [] := fun i => by
    simp only [List.range_succ, List.filter_append, List.filter_cons, List.filter_nil]
  have Ll : ∀ i, ((List.range i).filter T).length ≤ i := fun i => by
    have := List.length_filter_le T (List.range i)
    rwa [List.length_range] at this
  refine WP_loopI [13, 14, 77, 78, 79, 80, 81, 82, 83, 84, 85, 86, 87, 88, 89, 90, 91] (fun e h' => Ext h3 h' ∧ ∃ i : Nat, i ≤ r ∧ e 14 = .int .i64 i ∧ ∃ aO cO, e 13 = .slice aO ((List.range i).filter T).length cO ∧ OwnI h3.size h' 3 aO ((List.range i).filter T).length cO (zsN ((List.range i).filter T))) (fun e _ => match e 14 with | .int _ q => r - q.toNat | _ => 0) ⟨Ext.refl _, 0, by omega, rfl, none, 0, rfl, OwnI.nil _ _ _⟩ ?_
  rintro e4 h4 ⟨x4, i, hi, he4, aO, cO, heO, OO⟩
  by_cases hir : i < r
  · have hlt : (i : Int) < (r : Int) := by omega
    have meas : r - ((i : Int) + 1).toNat < r - (i : Int).toNat := by omega
    have c5 := (ib.ext x4).cell (j := i) (by rw [btL_length]; exact hir)
    rw [btL_get hir, eltP_some, cellH_eq, Nat.zero_add] at c5
    have Ln1 := Ln i
    have Li := Ll i
    cases hb : T i with
    | false =>
      rw [hb] at c5 Ln1
      rw [if_neg (by decide)] at c5
      rw [if_neg (by decide), List.append_nil] at Ln1
      simp only [he4, heO, hlt, c5, decide_true, decide_false, Int.toNat_natCast, coreS, Value.cells, Value.oneCell', Nat.reduceAdd, Nat.reduceSub, Nat.reduceMul, Nat.reduceLeDiff, Int.reduceEq, Nat.reduceEqDiff, Z3Fs36]
      refine ⟨by omega, rfl, by rw [inK_i64]; omega, roundK_mk (by kernel_rfl) ⟨x4, i + 1, by omega, rfl, aO, cO, by rw [Ln1]; rfl, by rw [Ln1]; exact OO⟩ meas⟩
    | true =>
      rw [hb] at c5 Ln1
      rw [if_pos rfl] at c5
      rw [if_pos rfl] at Ln1
      simp only [he4, heO, hlt, c5, decide_true, Int.toNat_natCast, coreS, Value.cells, Value.oneCell', Nat.reduceAdd, Nat.reduceSub, Nat.reduceMul, Nat.reduceLeDiff, Int.reduceEq, Nat.reduceEqDiff, Z3Fs36]
      refine ⟨by omega, rfl, ?_⟩
      have OO' := OO.ext ((Ext.refl h4).push (.cells #[.int .i64 (i : Int)] 3))
      refine app25 (m0 := h3.size) (len := ((List.range i).filter T).length) (m := 1) (ys := [(i : Int)]) rfl rfl OO' (by rw [push_size]; have := x4.size; omega) (intsV_one push_new) (by omega) fun a' cap' h5 O5 A5 => ?_
      have ezn : zsN ((List.range i).filter T) ++ [(i : Int)] = zsN ((List.range (i + 1)).filter T) := by rw [Ln1]; simp [zsN]
      have ell : ((List.range i).filter T).length + 1 = ((List.range (i + 1)).filter T).length := by rw [Ln1]; simp
      rw [ezn, ell] at O5
      simp only [he4, coreS, Value.cells, Value.oneCell', Nat.reduceAdd, Nat.reduceSub, Nat.reduceMul, Nat.reduceLeDiff, Int.reduceEq, Nat.reduceEqDiff, Z3Fs36]
      refine ⟨by rw [inK_i64]; omega, roundK_mk (by kernel_rfl) ⟨A5.extN OO' (x4.push _) (Nat.le_refl _), i + 1, by omega, rfl, a', cap', by rw [← ell]; rfl, O5⟩ meas⟩
  obtain rfl : i = r := by omega
  simp only [he4, heO, show ¬ ((i : Int) < (i : Int)) by omega, decide_false, coreS, Value.cells, Value.oneCell', Nat.reduceAdd, Nat.reduceSub, Nat.reduceMul, Nat.reduceLeDiff, Int.reduceEq, Nat.reduceEqDiff, Z3Fs36]
  rw [hL]
  exact ⟨⟨aO, cO, rfl, OO.ints⟩, x3.trans x4⟩
end Go.Proofs.YtmgkeeefbfefgaaGreat
