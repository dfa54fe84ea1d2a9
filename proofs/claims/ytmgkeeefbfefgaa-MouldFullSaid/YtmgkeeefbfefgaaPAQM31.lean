/- MouldFull returns true. -/
import Derived.Test.YtmgkeeefbfefgaaPA12
import Derived.Test.YtmgkeeefbfefgaaPAQWork
namespace Go.Proofs.Ytmgkeeefbfefgaa
open Go Go.Proofs Go.Eng Go.Run Tab
set_option maxRecDepth 100000
set_option linter.unusedSimpArgs false
set_option linter.unusedVariables false
set_option linter.defProp false
set_option maxHeartbeats 4000000
set_option linter.defProp false
def M31Fs10 := (And.intro (And.intro (And.intro (And.intro @agg22 @agg24) (And.intro @agg3 @by3)) (And.intro (And.intro @fo24_0 @fo24_1) (And.intro @fo24_2 (And.intro @inf22 @inf24)))) (And.intro (And.intro (And.intro @inf3 @sz22) (And.intro @sz24 (And.intro @sz3 @zero3))) (And.intro (And.intro @Try.underlying3 @Try.underlying5) (And.intro @Try.underlying22 (And.intro @Try.underlying25 @Try.underlying42)))))
/-- The wants of a day. -/
def dyL (G : List Nat) (d n : Nat) : List Nat := (List.range n).filter fun i => G.getD i 0 == d
theorem dyL_up (G : List Nat) (d n : Nat) : (dyL G d n).Pairwise (· < ·) := List.Pairwise.filter _ List.pairwise_lt_range
theorem dyL_lt {G : List Nat} {d n x : Nat} (h : x ∈ dyL G d n) : x < n := List.mem_range.1 (List.mem_filter.1 h).1
theorem dyL_next {G : List Nat} {d i : Nat} : dyL G d (i + 1) = dyL G d i ++ if G.getD i 0 = d then [i] else [] := by
  unfold dyL
  rw [List.range_succ, List.filter_append]
  congr 1
  by_cases h : G.getD i 0 = d
  · rw [if_pos h, List.filter_cons_of_pos (by simpa using h), List.filter_nil]
  · rw [if_neg h, List.filter_cons_of_neg (by simpa using h), List.filter_nil]
theorem dyL_free {sh mo : Nat → Nat} {G : List Nat} {d n : Nat} (hl : G.length = n) (hR : MB.rightL sh mo G) : MB.free sh mo (dyL G d n) := by
  have := MB.day_free (d := d) hR
  rw [hl] at this
  exact this
theorem dyL_len {G : List Nat} {d n : Nat} : (dyL G d n).length = MB.many (fun i => G.getD i 0) n d := rfl
theorem dyL_le {S M : Nat} {ws : List Wn} {G : List Nat} {d : Nat} (V : Vb S M ws) (hl : G.length = ws.length) (hR : MB.rightL (shN ws) (moN ws) G) : (dyL G d ws.length).length ≤ (lsN S M ws).length :=
  (lsN_Mx V).most _ (dyL_free hl hR) fun i hi => List.mem_range.2 (dyL_lt hi)
theorem gld_pos {S M : Nat} {ws : List Wn} (V : Vb S M ws) (h : 0 < ws.length) : 1 ≤ gld ws := by
  have G := gld_great V
  have h1 := G.sle (shN ws 0)
  have h2 : 0 < MB.load (shN ws) ws.length (shN ws 0) := by
    unfold MB.load MB.cnt
    refine List.length_pos_of_mem (a := 0) (List.mem_filter.2 ⟨List.mem_range.2 h, by simp⟩)
  omega
theorem full10 (S M : Int) (a : Option Addr) (n c : Nat) (ws : List Wn) (b : Option Addr) (m k : Nat) (by_ : List Int) (x : Int) (h : Eng.Heap) (hr : Row h a (wsV ws)) (hn : n = ws.length) (hb : Row h b (bytesV by_)) (hm : m = by_.length) (hby : ∀ x ∈ by_, 0 ≤ x ∧ x ≤ 255) (hx : 0 ≤ x ∧ x ≤ 255) :
    CallsH Try.prog 10 #[.agg #[.int .i64 S, .int .i64 M, .slice a n c], .slice b m k, .int .u8 x] h (fun v h' => v = .bool true ∧ Ext h h') := by
  (refine CallsH_of_exec Try.func10 rfl bod10 ?_; simp only [Try.ntmps10, Try.results10, coreS, stK_some, splice, Value.cells, Value.oneCell', Nat.reduceAdd, Nat.reduceSub, Nat.reduceMul, Nat.reduceLeDiff, Int.reduceEq, Nat.reduceEqDiff, M31Fs10])
  have x0 : Ext h (h.push (.cells #[.int .i64 S, .int .i64 M, .slice a n c] 24)) := (Ext.refl h).push _
  have hb0 := push_new (h := h) (o := .cells #[.int .i64 S, .int .i64 M, .slice a n c] 24)
  generalize h.push (.cells #[.int .i64 S, .int .i64 M, .slice a n c] 24) = hh at x0 hb0 ⊢
  refine CallsH.mono (fine36 S M a n c ws hh (hr.ext x0) hn) ?_
  rintro v h1 ⟨rfl, x1⟩
  have out : ∀ h1, Ext h h1 → CallsH Try.prog 17 #[] h1 (fun v h' => v = .bool true ∧ Ext h h') := fun h1 x => CallsH.mono (works17 h1) fun v h' q => ⟨q.1, x.trans q.2⟩
  have y1 := x0.trans x1
  have hb1 := x1.get hb0
  by_cases hc : chk S M ws = 0
  case neg =>
    simp only [hc, decide_false, Bool.not_false, coreS, Value.cells, Value.oneCell', Nat.reduceAdd, Nat.reduceSub, Nat.reduceMul, Nat.reduceLeDiff, Int.reduceEq, Nat.reduceEqDiff, M31Fs10]
    refine CallsH.mono (out _ y1) ?_
    rintro v h2 ⟨rfl, x2⟩
    simp only [coreS, Value.cells, Value.oneCell', Nat.reduceAdd, Nat.reduceSub, Nat.reduceMul, Nat.reduceLeDiff, Int.reduceEq, Nat.reduceEqDiff, M31Fs10]
    exact x2
  by_cases hn0 : (n : Int) = 0
  · simp only [hc, hn0, hb1, decide_true, Bool.not_true, coreS, Value.cells, Value.oneCell', Nat.reduceAdd, Nat.reduceSub, Nat.reduceMul, Nat.reduceLeDiff, Int.reduceEq, Nat.reduceEqDiff, M31Fs10]
    refine CallsH.mono (out _ y1) ?_
    rintro v h2 ⟨rfl, x2⟩
    simp only [coreS, Value.cells, Value.oneCell', Nat.reduceAdd, Nat.reduceSub, Nat.reduceMul, Nat.reduceLeDiff, Int.reduceEq, Nat.reduceEqDiff, M31Fs10]
    exact x2
  by_cases hl : 40 < (m : Int)
  · simp only [hc, hn0, hl, hb1, decide_true, decide_false, Bool.not_true, coreS, Value.cells, Value.oneCell', Nat.reduceAdd, Nat.reduceSub, Nat.reduceMul, Nat.reduceLeDiff, Int.reduceEq, Nat.reduceEqDiff, M31Fs10]
    refine CallsH.mono (out _ y1) ?_
    rintro v h2 ⟨rfl, x2⟩
    simp only [coreS, Value.cells, Value.oneCell', Nat.reduceAdd, Nat.reduceSub, Nat.reduceMul, Nat.reduceLeDiff, Int.reduceEq, Nat.reduceEqDiff, M31Fs10]
    exact x2
  obtain ⟨s, mm, rfl, rfl, V⟩ := chk_ok hc
  have hV := V.n
  have v1 := V.s1
  have v2 := V.s2
  have v3 := V.m1
  have v4 := V.m2
  simp only [hc, hn0, hl, hb1, decide_true, decide_false, Bool.not_true, coreS, Value.cells, Value.oneCell', Nat.reduceAdd, Nat.reduceSub, Nat.reduceMul, Nat.reduceLeDiff, Int.reduceEq, Nat.reduceEqDiff, M31Fs10]
  refine CallsH.mono (given38 s mm a n c ws b m k by_ h1 (hr.ext y1) hn V (hb.ext y1) hm hby (by omega)) ?_
  rintro v h2 ⟨⟨G, capG, aG, rfl, OG, hGl, hR, h14⟩, x2⟩
  have y2 := y1.trans x2
  have hb2 := x2.get hb1
  obtain ⟨W0, rfl⟩ : ∃ W0 : Nat, x = W0 := ⟨x.toNat, by omega⟩
  have ew : Int.tmod (W0 : Int) (n : Int) = ((W0 % n : Nat) : Int) := (Int.ofNat_tmod W0 n).symm
  obtain ⟨w, hw⟩ : ∃ w, w = W0 % n := ⟨_, rfl⟩
  have hwn : w < n := by rw [hw]; exact Nat.mod_lt _ (by omega)
  rw [← hw] at ew
  have hGz : ∀ i, i < n → (zsN G).getD i 0 = ((G.getD i 0 : Nat) : Int) := fun i hi => by
    simp [zsN, List.getD_eq_getElem?_getD, (by omega : i < G.length)]
  have IG := OG.ints
  obtain ⟨d, hd⟩ : ∃ d, d = G.getD w 0 := ⟨_, rfl⟩
  simp only [coreS, Value.cells, Value.oneCell', Nat.reduceAdd, Nat.reduceSub, Nat.reduceMul, Nat.reduceLeDiff, Int.reduceEq, Nat.reduceEqDiff, M31Fs10]
  refine WP_loopI [8, 9, 43, 44, 45, 46, 47, 48, 49, 50, 51, 52, 53, 54, 55, 56, 57, 58, 59, 60, 61, 62, 63, 64, 65] (fun e h' => Ext h2 h' ∧ ∃ i : Nat, i ≤ n ∧ e 9 = .int .i64 i ∧ ∃ aO cO, e 8 = .slice aO (dyL G d i).length cO ∧ OwnI h2.size h' 3 aO (dyL G d i).length cO (zsN (dyL G d i))) (fun e _ => match e 9 with | .int _ q => n - q.toNat | _ => 0) ⟨Ext.refl _, 0, by omega, rfl, none, 0, rfl, OwnI.nil _ _ _⟩ ?_
  rintro e h' ⟨x3, i, hi, he, aO, cO, heO, OO⟩
  have y3 := y2.trans x3
  have hb3 := x3.get hb2
  by_cases hin : i < n
  · have hlt : (i : Int) < (n : Int) := by omega
    have ci := (IG.ext x3).cell (j := i) (by rw [zsN_length]; omega)
    have cw := (IG.ext x3).cell (j := w) (by rw [zsN_length]; omega)
    rw [hGz i hin] at ci
    rw [hGz w hwn, ← hd] at cw
    have sG := (IG.ext x3).isSome (by rw [zsN_length]; omega)
    have hnn := dyL_next (G := G) (d := d) (i := i)
    have meas : n - ((i : Int) + 1).toNat < n - (i : Int).toNat := by omega
    simp only [he, hlt, decide_true, coreS, Value.cells, Value.oneCell', Nat.reduceAdd, Nat.reduceSub, Nat.reduceMul, Nat.reduceLeDiff, Int.reduceEq, Nat.reduceEqDiff, M31Fs10]
    refine WP_draw (by kernel_rfl) sta_ext [(0, 0), (1, 0), (2, 0), (3, 0), (4, 0), (5, 0), (6, 0), (7, 0), (8, 0), (9, 0), (10, 0), (11, 0), (12, 0)] (by kernel_rfl) rfl (by kernel_rfl) ?_
    simp only [he, ci, ew, cw, hn0, coreS, Value.cells, Value.oneCell', Nat.reduceAdd, Nat.reduceSub, Nat.reduceMul, Nat.reduceLeDiff, Int.reduceEq, Nat.reduceEqDiff, drawS, M31Fs10]
    refine ⟨⟨by omega, by omega⟩, sG, by rw [inK_i64]; omega, by omega, ⟨by omega, by omega⟩, sG, ?_⟩
    refine hvK_mk fun h4 x4 => ?_
    have x34 := x3.trans x4
    by_cases hq : G.getD i 0 = d
    case neg =>
      have hqi : ¬ ((G.getD i 0 : Nat) : Int) = (d : Nat) := by omega
      rw [if_neg hq, List.append_nil] at hnn
      simp only [he, heO, hqi, decide_false, coreS, Value.cells, Value.oneCell', Nat.reduceAdd, Nat.reduceSub, Nat.reduceMul, Nat.reduceLeDiff, Int.reduceEq, Nat.reduceEqDiff, M31Fs10]
      refine ⟨by rw [inK_i64]; omega, roundK_mk (by kernel_rfl) ⟨x34, i + 1, by omega, rfl, aO, cO, ?_, ?_⟩ meas⟩
      · rw [hnn]; rfl
      · rw [hnn]; exact OO.ext x4
    have hqi : ((G.getD i 0 : Nat) : Int) = (d : Nat) := by omega
    rw [if_pos hq] at hnn
    have hle : (dyL G d i).length ≤ i := by
      have := List.length_filter_le (fun i => G.getD i 0 == d) (List.range i)
      rw [List.length_range] at this
      exact this
    simp only [he, heO, hqi, decide_true, coreS, Value.cells, Value.oneCell', Nat.reduceAdd, Nat.reduceSub, Nat.reduceMul, Nat.reduceLeDiff, Int.reduceEq, Nat.reduceEqDiff, M31Fs10]
    have OO' := (OO.ext x4).ext ((Ext.refl h4).push (.cells #[.int .i64 (i : Int)] 3))
    refine app25 (m0 := h2.size) (len := (dyL G d i).length) (m := 1) (ys := [(i : Int)]) rfl rfl OO' (by rw [push_size]; have := x34.size; omega) (intsV_one push_new) (by omega) fun a' cap' h5 O5 A5 => ?_
    have ezn : zsN (dyL G d i) ++ [(i : Int)] = zsN (dyL G d (i + 1)) := by rw [hnn]; simp [zsN]
    have ell : (dyL G d i).length + 1 = (dyL G d (i + 1)).length := by rw [hnn]; simp
    rw [ezn, ell] at O5
    simp only [he, coreS, Value.cells, Value.oneCell', Nat.reduceAdd, Nat.reduceSub, Nat.reduceMul, Nat.reduceLeDiff, Int.reduceEq, Nat.reduceEqDiff, M31Fs10]
    refine ⟨by rw [inK_i64]; omega, roundK_mk (by kernel_rfl) ⟨A5.extN OO' (x34.push _) (Nat.le_refl _), i + 1, by omega, rfl, a', cap', ?_, O5⟩ meas⟩
    rw [← ell]; rfl
  obtain rfl : i = n := by omega
  have hlt : ¬ ((i : Int) < (i : Int)) := by omega
  simp only [he, heO, hlt, hb3, decide_false, coreS, Value.cells, Value.oneCell', Nat.reduceAdd, Nat.reduceSub, Nat.reduceMul, Nat.reduceLeDiff, Int.reduceEq, Nat.reduceEqDiff, M31Fs10]
  refine CallsH.mono (few37 s mm a i c ws h' (hr.ext y3) hn V) ?_
  rintro v h4 ⟨⟨q, rfl, hq, hz⟩, x4⟩
  have y4 := y3.trans x4
  simp only [x4.get hb3, coreS, Value.cells, Value.oneCell', Nat.reduceAdd, Nat.reduceSub, Nat.reduceMul, Nat.reduceLeDiff, Int.reduceEq, Nat.reduceEqDiff, M31Fs10]
  refine CallsH.mono (best41 s mm a i c ws h4 (hr.ext y4) hn V) ?_
  rintro v h5 ⟨⟨a5, c5, rfl, O5⟩, x5⟩
  have y5 := y4.trans x5
  have x45 := x4.trans x5
  simp only [x45.get hb3, coreS, Value.cells, Value.oneCell', Nat.reduceAdd, Nat.reduceSub, Nat.reduceMul, Nat.reduceLeDiff, Int.reduceEq, Nat.reduceEqDiff, M31Fs10]
  refine CallsH.mono (loads18 s mm a i c ws h5 (hr.ext y5) hn (by omega)) ?_
  rintro v h6 ⟨L1, x6⟩
  obtain ⟨p1, p2, rfl, _, _, _, l1, l2⟩ := L1.ok s mm rfl rfl V
  have y6 := y5.trans x6
  have x46 := x45.trans x6
  simp only [x46.get hb3, heO, decide_true, decide_false, Bool.not_true, coreS, Value.cells, Value.oneCell', Nat.reduceAdd, Nat.reduceSub, Nat.reduceMul, Nat.reduceLeDiff, Int.reduceEq, Nat.reduceEqDiff, M31Fs10]
  refine CallsH.mono (checkList30 s mm a i c ws aO _ cO _ h6 (hr.ext y6) hn (by omega) (OO.ext x46).ints (by have := dyL_le (d := d) V (by omega) hR; have := lsN_le V; rw [hn]; omega)) ?_
  rintro v h7 ⟨rfl, x7⟩
  have hck : chkL s mm ws (zsN (dyL G d i)) = 0 := chkL_good V (dyL_up _ _ _) (fun x hx => by rw [← hn]; exact dyL_lt hx) (dyL_free hGl hR)
  rw [hck]
  have y7 := y6.trans x7
  have x47 := x46.trans x7
  have hb7 := x47.get hb3
  have hle := dyL_le (d := d) V (by omega) hR
  rw [← hn] at hle
  have t1 : ¬ (((lsN s mm ws).length : Nat) : Int) < ((dyL G d i).length : Nat) := by omega
  have hgp := gld_pos V (by omega)
  have hgl := gld_le V
  have t2 : ¬ ((gld ws : Nat) : Int) < 1 := by omega
  simp only [hb7, t1, t2, decide_true, decide_false, Bool.not_true, coreS, Value.cells, Value.oneCell', Nat.reduceAdd, Nat.reduceSub, Nat.reduceMul, Nat.reduceLeDiff, Int.reduceEq, Nat.reduceEqDiff, M31Fs10]
  have i1 : IntsV h7 (some ⟨p1, 0, none⟩) s (ldL (shN ws) s ws.length) := by
    have := IntsV.block (xs := ldL (shN ws) s ws.length) (x7.get l1)
    rwa [ldL_length] at this
  have i2 : IntsV h7 (some ⟨p2, 0, none⟩) mm (ldL (moN ws) mm ws.length) := by
    have := IntsV.block (xs := ldL (moN ws) mm ws.length) (x7.get l2)
    rwa [ldL_length] at this
  refine WP_loopI [18, 19, 124, 125, 126, 127, 128, 129, 130, 131, 132, 133, 134, 135, 136, 137, 138] (fun e hh => hh = h7 ∧ ∃ j : Nat, j ≤ s ∧ e 19 = .int .i64 j ∧ ∃ ev : Bool, e 18 = .bool ev ∧ (ev = true → ∀ t, t < j → MB.load (shN ws) ws.length t = gld ws)) (fun e _ => match e 19 with | .int _ q => s - q.toNat | _ => 0) ⟨rfl, 0, by omega, rfl, true, rfl, fun _ t ht => absurd ht (by omega)⟩ ?_
  rintro e1 h8 ⟨rfl, j, hj, he1, ev, hev, hall⟩
  by_cases hjs : j < s
  · have hlt1 : (j : Int) < (s : Int) := by omega
    have c1 := i1.cell (j := j) (by rw [ldL_length]; exact hjs)
    rw [ldL_get hjs, eltP_some, cellH_eq, Nat.zero_add] at c1
    have meas : s - ((j : Int) + 1).toNat < s - (j : Int).toNat := by omega
    cases ev with
    | false =>
      simp only [he1, hev, hlt1, decide_true, coreS, Value.cells, Value.oneCell', Nat.reduceAdd, Nat.reduceSub, Nat.reduceMul, Nat.reduceLeDiff, Int.reduceEq, Nat.reduceEqDiff, M31Fs10]
      refine ⟨by rw [inK_i64]; omega, roundK_mk (by kernel_rfl) ⟨rfl, j + 1, by omega, rfl, false, rfl, fun h => by cases h⟩ meas⟩
    | true =>
      simp only [he1, hev, hlt1, c1, decide_true, Int.toNat_natCast, coreS, Value.cells, Value.oneCell', Nat.reduceAdd, Nat.reduceSub, Nat.reduceMul, Nat.reduceLeDiff, Int.reduceEq, Nat.reduceEqDiff, M31Fs10]
      refine ⟨by omega, rfl, by rw [inK_i64]; omega, roundK_mk (by kernel_rfl) ⟨rfl, j + 1, by omega, rfl, _, rfl, fun h t ht => ?_⟩ meas⟩
      by_cases htj : t = j
      · subst htj
        have := of_decide_eq_true h
        omega
      · exact hall rfl t (by omega)
  obtain rfl : j = s := by omega
  simp only [he1, hev, show ¬ ((j : Int) < (j : Int)) by omega, decide_false, coreS, Value.cells, Value.oneCell', Nat.reduceAdd, Nat.reduceSub, Nat.reduceMul, Nat.reduceLeDiff, Int.reduceEq, Nat.reduceEqDiff, M31Fs10]
  refine WP_loopI [18, 20, 139, 140, 141, 142, 143, 144, 145, 146, 147, 148, 149, 150, 151, 152, 153] (fun e hh => hh = h8 ∧ ∃ t : Nat, t ≤ mm ∧ e 20 = .int .i64 t ∧ ∃ ev2 : Bool, e 18 = .bool ev2 ∧ (ev2 = true → ev = true)) (fun e _ => match e 20 with | .int _ q => mm - q.toNat | _ => 0) ⟨rfl, 0, by omega, rfl, ev, rfl, fun h => h⟩ ?_
  rintro e2 h9 ⟨rfl, t, ht, he2, ev2, hev2, hall2⟩
  by_cases htm : t < mm
  · have hlt1 : (t : Int) < (mm : Int) := by omega
    have c1 := i2.cell (j := t) (by rw [ldL_length]; exact htm)
    rw [ldL_get htm, eltP_some, cellH_eq, Nat.zero_add] at c1
    have meas : mm - ((t : Int) + 1).toNat < mm - (t : Int).toNat := by omega
    cases ev2 with
    | false =>
      simp only [he2, hev2, hlt1, decide_true, coreS, Value.cells, Value.oneCell', Nat.reduceAdd, Nat.reduceSub, Nat.reduceMul, Nat.reduceLeDiff, Int.reduceEq, Nat.reduceEqDiff, M31Fs10]
      refine ⟨by rw [inK_i64]; omega, roundK_mk (by kernel_rfl) ⟨rfl, t + 1, by omega, rfl, false, rfl, fun h => by cases h⟩ meas⟩
    | true =>
      simp only [he2, hev2, hlt1, c1, decide_true, Int.toNat_natCast, coreS, Value.cells, Value.oneCell', Nat.reduceAdd, Nat.reduceSub, Nat.reduceMul, Nat.reduceLeDiff, Int.reduceEq, Nat.reduceEqDiff, M31Fs10]
      refine ⟨by omega, rfl, by rw [inK_i64]; omega, roundK_mk (by kernel_rfl) ⟨rfl, t + 1, by omega, rfl, _, rfl, fun _ => hall2 rfl⟩ meas⟩
  obtain rfl : t = mm := by omega
  obtain ⟨d1, d2, d3, d4, d5⟩ := dysF_ok V
  rw [← hn] at d2
  have iq : IntsV h9 (some ⟨q, 0, none⟩) i (zsN (dysF ws)) := by
    have := IntsV.block (xs := zsN (dysF ws)) (x7.get (x6.get (x5.get hz)))
    rwa [zsN_length, d2] at this
  have hqz : ∀ x, x < i → (zsN (dysF ws)).getD x 0 = (((dysF ws).getD x 0 : Nat) : Int) := fun x hx => by
    simp [zsN, List.getD_eq_getElem?_getD, (by omega : x < (dysF ws).length)]
  obtain ⟨C, hC⟩ : ∃ C : Nat → Nat, C = fun x => (dysF ws).getD x 0 := ⟨_, rfl⟩
  have hqe : ∀ {hh : Eng.Heap}, Ext h9 hh → ∀ x, x < i → cellH hh (eltP (some ⟨q, 0, none⟩) x) = some (.int .i64 (C x : Nat)) := fun xx x hx => by
    rw [(iq.ext xx).cell (by rw [zsN_length]; omega), hqz x hx, hC]
  have hqc : ∀ x, x < i → cellH h9 (eltP (some ⟨q, 0, none⟩) x) = some (.int .i64 (C x : Nat)) := fun x hx => by
    rw [iq.cell (by rw [zsN_length]; omega), hqz x hx, hC]
  have hCR : MB.right (shN ws) (moN ws) C i := by rw [hC, ← d2]; exact d3
  have hClt : ∀ x, x < i → C x < gld ws := fun x hx => by
    rw [hC]
    simp only [List.getD_eq_getElem?_getD, List.getElem?_eq_getElem (show x < (dysF ws).length by omega), Option.getD_some]
    exact d4 _ (List.getElem_mem _)
  have hmle : ∀ d, MB.many C i d ≤ (lsN j t ws).length := fun d => by
    have := dyL_le (d := d) V (by omega) d3
    rw [← hn, dyL_len, ← hC] at this
    exact this
  simp only [he2, hev2, hz, show ¬ ((t : Int) < (t : Int)) by omega, decide_false, coreS, Value.cells, Value.oneCell', Nat.reduceAdd, Nat.reduceSub, Nat.reduceMul, Nat.reduceLeDiff, Int.reduceEq, Nat.reduceEqDiff, M31Fs10]
  rw [← hn]
  refine WP_loopI [6, 21, 22, 23, 24, 154, 155, 156, 157, 158, 159, 160, 161, 162, 163, 164, 165, 166, 167, 168, 169, 170, 171, 172, 173, 174, 175, 176, 177, 178, 179, 180, 181, 182, 183, 184, 185, 186] (fun e hh => Ext h9 hh ∧ ∃ x : Nat, x ≤ i ∧ e 22 = .int .i64 x ∧ ∃ mo : Nat, e 21 = .int .i64 mo ∧ mo ≤ i ∧ (mo ≤ (lsN j t ws).length) ∧ (∀ z, z < x → MB.many C i (C z) ≤ mo)) (fun e _ => match e 22 with | .int _ q => i - q.toNat | _ => 0) ⟨Ext.refl _, 0, by omega, rfl, 0, rfl, by omega, by omega, fun t ht => absurd ht (by omega)⟩ ?_
  rintro e3 h10 ⟨x10, x, hx, he3, mo, hmo, hmi, hml, hmx⟩
  by_cases hxi : x < i
  · have hlt1 : (x : Int) < (i : Int) := by omega
    have meas : i - ((x : Int) + 1).toNat < i - (x : Int).toNat := by omega
    simp only [he3, hmo, hlt1, decide_true, coreS, Value.cells, Value.oneCell', Nat.reduceAdd, Nat.reduceSub, Nat.reduceMul, Nat.reduceLeDiff, Int.reduceEq, Nat.reduceEqDiff, M31Fs10]
    refine WP_loopI [23, 24, 160, 161, 162, 163, 164, 165, 166, 167, 168, 169, 170, 171, 172, 173, 174, 175, 176] (fun e hh => Ext h9 hh ∧ ∃ z : Nat, z ≤ i ∧ e 24 = .int .i64 z ∧ e 23 = .int .i64 (MB.many C z (C x) : Nat)) (fun e _ => match e 24 with | .int _ q => i - q.toNat | _ => 0) ⟨x10, 0, by omega, rfl, rfl⟩ ?_
    rintro e4 h11 ⟨x11, z, hz4, he4, he23⟩
    by_cases hzi : z < i
    · have hlt2 : (z : Int) < (i : Int) := by omega
      have cz := hqe x11 z hzi
      have cx := hqe x11 x hxi
      rw [eltP_some, cellH_eq, Nat.zero_add] at cz cx
      have meas2 : i - ((z : Int) + 1).toNat < i - (z : Int).toNat := by omega
      have hmn : MB.many C (z + 1) (C x) = MB.many C z (C x) + if C z = C x then 1 else 0 := by
        unfold MB.many
        rw [MB.cnt_succ]
        by_cases hh : C z = C x <;> simp [hh]
      simp only [he3, he4, hlt2, decide_true, coreS, Value.cells, Value.oneCell', Nat.reduceAdd, Nat.reduceSub, Nat.reduceMul, Nat.reduceLeDiff, Int.reduceEq, Nat.reduceEqDiff, M31Fs10]
      refine WP_draw (by kernel_rfl) sta_ext [(0, 0), (1, 0), (2, 0), (3, 0), (4, 0), (5, 0), (6, 0), (7, 0), (8, 0)] (by kernel_rfl) rfl (by kernel_rfl) ?_
      simp only [he3, he4, cz, cx, coreS, Value.cells, Value.oneCell', Nat.reduceAdd, Nat.reduceSub, Nat.reduceMul, Nat.reduceLeDiff, Int.reduceEq, Nat.reduceEqDiff, drawS, M31Fs10]
      refine ⟨⟨by omega, by omega⟩, rfl, ⟨by omega, by omega⟩, rfl, ?_⟩
      refine hvK_mk fun h12 x12 => ?_
      by_cases hzc : C z = C x
      · have hzi : ((C z : Nat) : Int) = (C x : Nat) := by omega
        rw [if_pos hzc] at hmn
        simp only [he4, he23, hzi, decide_true, coreS, Value.cells, Value.oneCell', Nat.reduceAdd, Nat.reduceSub, Nat.reduceMul, Nat.reduceLeDiff, Int.reduceEq, Nat.reduceEqDiff, M31Fs10]
        refine ⟨by rw [inK_i64]; have := MB.cnt_le (fun i => C i == C x) z; unfold MB.many; omega, by rw [inK_i64]; omega, roundK_mk (by kernel_rfl) ⟨x11.trans x12, z + 1, by omega, rfl, by rw [hmn]; rfl⟩ meas2⟩
      · have hzi : ¬ ((C z : Nat) : Int) = (C x : Nat) := by omega
        rw [if_neg hzc] at hmn
        simp only [he4, he23, hzi, decide_false, coreS, Value.cells, Value.oneCell', Nat.reduceAdd, Nat.reduceSub, Nat.reduceMul, Nat.reduceLeDiff, Int.reduceEq, Nat.reduceEqDiff, M31Fs10]
        refine ⟨by rw [inK_i64]; omega, roundK_mk (by kernel_rfl) ⟨x11.trans x12, z + 1, by omega, rfl, by rw [hmn]; rfl⟩ meas2⟩
    obtain rfl : z = i := by omega
    have hm1 := hmle (C x)
    have hm2 : MB.many C z (C x) ≤ z := MB.cnt_le _ _
    have hbx := x11.get hb7
    simp only [he4, he23, hmo, show ¬ ((z : Int) < (z : Int)) by omega, decide_false, coreS, Value.cells, Value.oneCell', Nat.reduceAdd, Nat.reduceSub, Nat.reduceMul, Nat.reduceLeDiff, Int.reduceEq, Nat.reduceEqDiff, M31Fs10]
    have hmx1 : ((max mo (MB.many C z (C x)) : Nat) : Int) = if (mo : Int) < (MB.many C z (C x) : Nat) then ((MB.many C z (C x) : Nat) : Int) else (mo : Int) := by split <;> omega
    have nxt : ∀ z', z' < x + 1 → MB.many C z (C z') ≤ max mo (MB.many C z (C x)) := fun z' hz' => by
      by_cases e : z' = x
      · subst e; omega
      · have := hmx z' (by omega); omega
    cases ev2 with
    | false =>
      simp only [he3, coreS, Value.cells, Value.oneCell', Nat.reduceAdd, Nat.reduceSub, Nat.reduceMul, Nat.reduceLeDiff, Int.reduceEq, Nat.reduceEqDiff, M31Fs10]
      refine ⟨by rw [inK_i64]; omega, roundK_mk (by kernel_rfl) ⟨x11, x + 1, by omega, rfl, max mo (MB.many C z (C x)), by rw [hmx1]; rfl, by omega, by omega, nxt⟩ meas⟩
    | true =>
      have hev1 := hall (hall2 rfl)
      have hme : MB.many C z (C x) = j := MB.many_even hCR hClt (fun i hi => (V.s (by omega)).2) (fun s' hs' => by have := hev1 s' hs'; rw [← hn] at this; exact this) (hClt x hxi)
      simp only [he3, hbx, hme, decide_true, decide_false, Bool.not_true, coreS, Value.cells, Value.oneCell', Nat.reduceAdd, Nat.reduceSub, Nat.reduceMul, Nat.reduceLeDiff, Int.reduceEq, Nat.reduceEqDiff, M31Fs10]
      rw [hme] at hmx1 nxt
      refine ⟨by rw [inK_i64]; omega, roundK_mk (by kernel_rfl) ⟨x11, x + 1, by omega, rfl, max mo j, by rw [hmx1]; rfl, by omega, by omega, nxt⟩ meas⟩
  obtain rfl : x = i := by omega
  have hsum : x ≤ mo * gld ws := MB.many_sum (gld ws) x C hClt fun d => by
    by_cases hd : ∃ z, z < x ∧ C z = d
    · obtain ⟨z, hz, rfl⟩ := hd
      exact hmx z hz
    · have : MB.many C x d = 0 := by
        unfold MB.many
        exact MB.cnt_none fun i hi => by simp; exact fun e => hd ⟨i, hi, e⟩
      omega
  have u1 : (x : Int) ≤ (mo : Int) * (gld ws : Nat) := by rw [← Int.natCast_mul]; exact Int.ofNat_le.2 hsum
  have u2 : (mo : Int) ≤ ((lsN j t ws).length : Nat) := by omega
  have u3 : (mo : Int) * (gld ws : Nat) ≤ 400 := by
    have : mo * gld ws ≤ 20 * 20 := Nat.mul_le_mul (by omega) (by omega)
    rw [← Int.natCast_mul]; exact Int.ofNat_le.2 this
  have u4 : 0 ≤ (mo : Int) * (gld ws : Nat) := Int.mul_nonneg (by omega) (by omega)
  simp only [he3, hmo, show ¬ ((x : Int) < (x : Int)) by omega, u1, u2, decide_true, decide_false, coreS, Value.cells, Value.oneCell', Nat.reduceAdd, Nat.reduceSub, Nat.reduceMul, Nat.reduceLeDiff, Int.reduceEq, Nat.reduceEqDiff, M31Fs10]
  refine ⟨by rw [inK_i64]; omega, ?_⟩
  refine CallsH.mono (out _ (y7.trans x10)) ?_
  rintro v h12 ⟨rfl, x12⟩
  simp only [coreS, Value.cells, Value.oneCell', Nat.reduceAdd, Nat.reduceSub, Nat.reduceMul, Nat.reduceLeDiff, Int.reduceEq, Nat.reduceEqDiff, M31Fs10]
  exact x12
end Go.Proofs.Ytmgkeeefbfefgaa
