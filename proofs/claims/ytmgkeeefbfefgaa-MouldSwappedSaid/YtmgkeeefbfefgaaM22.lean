/- MouldSwapped returns true. -/
import Derived.Test.YtmgkeeefbfefgaaM21
import Derived.Test.YtmgkeeefbfefgaaM15
import Derived.Test.YtmgkeeefbfefgaaWork
namespace Go.Proofs.Ytmgkeeefbfefgaa
open Go Go.Proofs Go.Eng Go.Run Tab
set_option maxRecDepth 100000
set_option linter.unusedSimpArgs false
set_option linter.unusedVariables false
set_option linter.defProp false
set_option maxHeartbeats 4000000
set_option linter.defProp false
def M22Fs7 := (And.intro (And.intro (And.intro (And.intro @agg22 @agg24) (And.intro @agg3 @by3)) (And.intro (And.intro @fo24_2 @inf22) (And.intro @inf24 @inf3))) (And.intro (And.intro (And.intro @sz22 @sz24) (And.intro @sz3 @Try.underlying3)) (And.intro (And.intro @Try.underlying5 @Try.underlying22) (And.intro @Try.underlying25 @Try.underlying42))))
theorem swapped7 (S M : Int) (a : Option Addr) (n c : Nat) (ws : List Wn) (b : Option Addr) (m k : Nat) (by_ : List Int) (which second : Int) (h : Eng.Heap) (hr : Row h a (wsV ws)) (hn : n = ws.length) (hb : Row h b (bytesV by_)) (hm : m = by_.length) (hby : ∀ x ∈ by_, 0 ≤ x ∧ x ≤ 255) (hwh : 0 ≤ which ∧ which ≤ 255) (hse : 0 ≤ second ∧ second ≤ 255) :
    CallsH Try.prog 7 #[.agg #[.int .i64 S, .int .i64 M, .slice a n c], .slice b m k, .int .u8 which, .int .u8 second] h (fun v h' => v = .bool true ∧ Ext h h') := by
  (refine CallsH_of_exec Try.func7 rfl bod7 ?_; simp only [Try.ntmps7, Try.results7, coreS, stK_some, splice, Value.cells, Value.oneCell', Nat.reduceAdd, Nat.reduceSub, Nat.reduceMul, Nat.reduceLeDiff, Int.reduceEq, Nat.reduceEqDiff, M22Fs7])
  have x0 : Ext h (h.push (.cells #[.int .i64 S, .int .i64 M, .slice a n c] 24)) := (Ext.refl h).push _
  have hb0 := push_new (h := h) (o := .cells #[.int .i64 S, .int .i64 M, .slice a n c] 24)
  generalize h.push (.cells #[.int .i64 S, .int .i64 M, .slice a n c] 24) = hh at x0 hb0 ⊢
  refine CallsH.mono (fine36 S M a n c ws hh (hr.ext x0) hn) ?_
  rintro v h1 ⟨rfl, x1⟩
  have out : ∀ h1, Ext h h1 → CallsH Try.prog 17 #[] h1 (fun v h' => v = .bool true ∧ Ext h h') := fun h1 x => CallsH.mono (works17 h1) fun v h' q => ⟨q.1, x.trans q.2⟩
  have y1 := x0.trans x1
  have hb1 := x1.get hb0
  by_cases hc : chk S M ws = 0
  case neg =>
    simp only [hc, decide_false, Bool.not_false, coreS, Value.cells, Value.oneCell', Nat.reduceAdd, Nat.reduceSub, Nat.reduceMul, Nat.reduceLeDiff, Int.reduceEq, Nat.reduceEqDiff, M22Fs7]
    refine CallsH.mono (out _ y1) ?_
    rintro v h2 ⟨rfl, x2⟩
    simp only [coreS, Value.cells, Value.oneCell', Nat.reduceAdd, Nat.reduceSub, Nat.reduceMul, Nat.reduceLeDiff, Int.reduceEq, Nat.reduceEqDiff, M22Fs7]
    exact x2
  by_cases hn0 : (n : Int) = 0
  · simp only [hc, hn0, hb1, decide_true, Bool.not_true, coreS, Value.cells, Value.oneCell', Nat.reduceAdd, Nat.reduceSub, Nat.reduceMul, Nat.reduceLeDiff, Int.reduceEq, Nat.reduceEqDiff, M22Fs7]
    refine CallsH.mono (out _ y1) ?_
    rintro v h2 ⟨rfl, x2⟩
    simp only [coreS, Value.cells, Value.oneCell', Nat.reduceAdd, Nat.reduceSub, Nat.reduceMul, Nat.reduceLeDiff, Int.reduceEq, Nat.reduceEqDiff, M22Fs7]
    exact x2
  by_cases hl : 40 < (m : Int)
  · simp only [hc, hn0, hl, hb1, decide_true, decide_false, Bool.not_true, coreS, Value.cells, Value.oneCell', Nat.reduceAdd, Nat.reduceSub, Nat.reduceMul, Nat.reduceLeDiff, Int.reduceEq, Nat.reduceEqDiff, M22Fs7]
    refine CallsH.mono (out _ y1) ?_
    rintro v h2 ⟨rfl, x2⟩
    simp only [coreS, Value.cells, Value.oneCell', Nat.reduceAdd, Nat.reduceSub, Nat.reduceMul, Nat.reduceLeDiff, Int.reduceEq, Nat.reduceEqDiff, M22Fs7]
    exact x2
  obtain ⟨s, mm, rfl, rfl, V⟩ := chk_ok hc
  have hV := V.n
  simp only [hc, hn0, hl, hb1, decide_true, decide_false, Bool.not_true, coreS, Value.cells, Value.oneCell', Nat.reduceAdd, Nat.reduceSub, Nat.reduceMul, Nat.reduceLeDiff, Int.reduceEq, Nat.reduceEqDiff, M22Fs7]
  refine CallsH.mono (given38 s mm a n c ws b m k by_ h1 (hr.ext y1) hn V (hb.ext y1) hm hby (by omega)) ?_
  rintro v h2 ⟨⟨G, capG, aG, rfl, OG, hGl, hR, h14⟩, x2⟩
  have y2 := y1.trans x2
  have hb2 := x2.get hb1
  have hGw : G.length = ws.length := by omega
  obtain ⟨W0, rfl⟩ : ∃ W0 : Nat, which = W0 := ⟨which.toNat, by omega⟩
  obtain ⟨D0, rfl⟩ : ∃ D0 : Nat, second = D0 := ⟨second.toNat, by omega⟩
  have ew : Int.tmod (W0 : Int) (n : Int) = ((W0 % n : Nat) : Int) := (Int.ofNat_tmod W0 n).symm
  have ed : Int.tmod (D0 : Int) 14 = ((D0 % 14 : Nat) : Int) := (Int.ofNat_tmod D0 14).symm
  obtain ⟨w, hw⟩ : ∃ w, w = W0 % n := ⟨_, rfl⟩
  obtain ⟨d, hd⟩ : ∃ d, d = D0 % 14 := ⟨_, rfl⟩
  have hwn : w < n := by rw [hw]; exact Nat.mod_lt _ (by omega)
  have hd14 : d < 14 := by rw [hd]; exact Nat.mod_lt _ (by omega)
  rw [← hw] at ew
  rw [← hd] at ed
  have hwl : w < ws.length := by omega
  have lG : (zsN G).length = n := by rw [zsN_length]; omega
  have cw := OG.ints.cell (j := w) (by omega)
  rw [zsN_at] at cw
  have sG := OG.ints.isSome (by omega)
  obtain ⟨gD, gE⟩ := given_S V hGw hR h14
  simp only [ew, ed, cw, Int.toNat_natCast, coreS, Value.cells, Value.oneCell', Nat.reduceAdd, Nat.reduceSub, Nat.reduceMul, Nat.reduceLeDiff, Int.reduceEq, Nat.reduceEqDiff, M22Fs7]
  refine ⟨by rw [inK_i64]; omega, by omega, by rw [inK_i64]; omega, by omega, ⟨by omega, by omega⟩, sG, ?_⟩
  by_cases heq : dG G w = d
  · have heq1 : ((G.getD w 0 : Nat) : Int) = ((d : Nat) : Int) := by have : G.getD w 0 = d := heq; rw [this]
    have hE : chnE (s : Int) (mm : Int) ws (zsN G) (w : Int) (d : Int) = 16 := by rw [chnE_D gD hGw hwl hd14, if_pos heq]
    simp only [heq1, hb2, decide_true, coreS, Value.cells, Value.oneCell', Nat.reduceAdd, Nat.reduceSub, Nat.reduceMul, Nat.reduceLeDiff, Int.reduceEq, Nat.reduceEqDiff, M22Fs7]
    refine CallsH.mono (swap39 s mm a n c ws aG n capG (zsN G) w d h2 (hr.ext y2) hn (by omega) OG.ints (by omega)) ?_
    rintro v h3 ⟨P, x3⟩
    have e := P.no (by rw [hE]; decide)
    rw [hE] at e
    subst e
    simp only [decide_true, coreS, Value.cells, Value.oneCell', Nat.reduceAdd, Nat.reduceSub, Nat.reduceMul, Nat.reduceLeDiff, Int.reduceEq, Nat.reduceEqDiff, M22Fs7]
    refine CallsH.mono (out _ (y2.trans x3)) ?_
    rintro v h4 ⟨rfl, x4⟩
    simp only [coreS, Value.cells, Value.oneCell', Nat.reduceAdd, Nat.reduceSub, Nat.reduceMul, Nat.reduceLeDiff, Int.reduceEq, Nat.reduceEqDiff, M22Fs7]
    exact x4
  have heq1 : ¬ ((G.getD w 0 : Nat) : Int) = ((d : Nat) : Int) := fun e => heq (show G.getD w 0 = d by omega)
  have hE : chnE (s : Int) (mm : Int) ws (zsN G) (w : Int) (d : Int) = 0 := by rw [chnE_D gD hGw hwl hd14, if_neg heq]
  simp only [heq1, hb2, decide_false, coreS, Value.cells, Value.oneCell', Nat.reduceAdd, Nat.reduceSub, Nat.reduceMul, Nat.reduceLeDiff, Int.reduceEq, Nat.reduceEqDiff, M22Fs7]
  refine CallsH.mono (chain40 s mm a n c ws aG n capG (zsN G) w d h2 (hr.ext y2) hn (by omega) OG.ints (by omega)) ?_
  rintro v h3 ⟨PC, x3⟩
  obtain ⟨aL, capL, rfl, OL⟩ := PC.ok hE
  have y3 := y2.trans x3
  have hb3 := x3.get hb2
  simp only [hb3, coreS, Value.cells, Value.oneCell', Nat.reduceAdd, Nat.reduceSub, Nat.reduceMul, Nat.reduceLeDiff, Int.reduceEq, Nat.reduceEqDiff, M22Fs7]
  refine CallsH.mono (swap39 s mm a n c ws aG n capG (zsN G) w d h3 (hr.ext y3) hn (by omega) (OG.ext x3).ints (by omega)) ?_
  rintro v h4 ⟨PS, x4⟩
  obtain ⟨aS, capS, rfl, OS⟩ := PS.ok hE
  have y4 := y3.trans x4
  have hb4 := x4.get hb3
  obtain ⟨L, hL⟩ : ∃ L, L = chnL ws (zsN G) (w : Int) (d : Int) := ⟨_, rfl⟩
  obtain ⟨Q, hQ⟩ : ∃ Q, Q = swL ws (zsN G) (w : Int) (d : Int) := ⟨_, rfl⟩
  have hQl : Q.length = ws.length := by rw [hQ, swL_length]
  obtain ⟨cl1, cl2⟩ := chn_len (ws := ws) (G := G) (w := w) (d := d) hwl
  rw [← hL] at cl1 cl2 OL
  rw [← hQ] at OS
  rw [← hL]
  have k1 : ¬ ((L.length : Nat) : Int) < 1 := by omega
  have k2 : ¬ ((n : Nat) : Int) < ((L.length : Nat) : Int) := by omega
  have k3 : ((ws.length : Nat) : Int) = ((n : Nat) : Int) := by omega
  simp only [hb4, k1, k2, k3, decide_true, decide_false, Bool.not_true, coreS, Value.cells, Value.oneCell', Nat.reduceAdd, Nat.reduceSub, Nat.reduceMul, Nat.reduceLeDiff, Int.reduceEq, Nat.reduceEqDiff, M22Fs7]
  have sR := sw_right hwl hGw hR heq
  have sL := sw_lt hwl hGw h14 hd14
  rw [← hQ] at sR sL
  obtain ⟨sD, sE⟩ := given_S V hQl sR sL
  refine CallsH.mono (checkDays20 s mm a n c ws aS ws.length capS (zsN Q) h4 (hr.ext y4) hn (by omega) OS.ints (by omega)) ?_
  rintro v h5 ⟨rfl, x5⟩
  rw [sD]
  have y5 := y4.trans x5
  have hb5 := x5.get hb4
  simp only [hb5, coreS, Value.cells, Value.oneCell', Nat.reduceAdd, Nat.reduceSub, Nat.reduceMul, Nat.reduceLeDiff, Int.reduceEq, Nat.reduceEqDiff, M22Fs7]
  refine CallsH.mono (checkDays21 s mm a n c ws aS ws.length capS (zsN Q) h5 (hr.ext y5) hn (by omega) (OS.ext x5).ints (by omega) OS.cap) ?_
  rintro v h6 ⟨rfl, x6⟩
  rw [sD]
  have y6 := y5.trans x6
  have hb6 := x6.get hb5
  have OG6 : OwnI h1.size h6 3 aG n capG (zsN G) := (((OG.ext x3).ext x4).ext x5).ext x6
  have OL6 := ((OL.ext x4).ext x5).ext x6
  have OS6 := (OS.ext x5).ext x6
  clear OG OL OS x1 x2 x3 x4 x5 x6 hb0 hb1 hb2 hb3 hb4 hb5 y1 y2 y3 y4 y5 x0
  have hsort : L.Pairwise (· < ·) := by rw [hL]; exact chn_sorted
  simp only [decide_true, Bool.not_true, coreS, Value.cells, Value.oneCell', Nat.reduceAdd, Nat.reduceSub, Nat.reduceMul, Nat.reduceLeDiff, Int.reduceEq, Nat.reduceEqDiff, M22Fs7]
  refine WP_loopI [8, 18, 19, 20, 21, 22, 23, 24, 25, 130, 131, 132, 133, 134, 135, 136, 137, 138, 139, 140, 141, 142, 143, 144, 145, 146, 147, 148, 149, 150, 151, 152, 153, 154, 155, 156, 157, 158, 159, 160, 161, 162, 163, 164, 165, 166, 167, 168, 169, 170, 171, 172, 173, 174, 175, 176, 177, 178, 179, 180, 181, 182, 183, 184, 185, 186, 187, 188, 189, 190, 191, 192, 193, 194, 195, 196, 197, 198, 199, 200, 201, 202, 203, 204, 205, 206, 207, 208, 209, 210, 211, 212, 213, 214, 215, 216, 217, 218, 219] (fun e h' => Ext h6 h' ∧ ∃ i : Nat, i ≤ n ∧ e 19 = .int .i64 i ∧ e 18 = .int .i64 (below L i : Nat)) (fun e _ => match e 19 with | .int _ q => n - q.toNat | _ => 0) ⟨Ext.refl _, 0, by omega, rfl, by rw [below_zero]; rfl⟩ ?_
  rintro e h' ⟨x, i, hi, he, he18⟩
  have y' := y6.trans x
  have hb' := x.get hb6
  have sLs : aL.isSome = true := OL6.ints.isSome (by rw [zsN_length]; omega)
  have sSs : aS.isSome = true := OS6.ints.isSome (by rw [zsN_length]; omega)
  by_cases hin : i < n
  · have hlt : (i : Int) < (n : Int) := by omega
    have hil : i < ws.length := by omega
    have cG := (OG6.ext x).ints.cell (j := i) (by omega)
    rw [zsN_at] at cG
    have cS := (OS6.ext x).ints.cell (j := i) (by rw [zsN_length]; omega)
    rw [zsN_at] at cS
    have hstep := below_step hsort i
    have hbin := below_in hsort i
    have hbl : below L i ≤ n := Nat.le_trans (List.length_filter_le _ _) (by omega)
    -- a want that is none of the chain
    have no : L.contains i = false → Q.getD i 0 = G.getD i 0 := fun hct => by
      rw [hQ, sw_at hwl hil, MB.swp_out]
      intro hch
      have : i ∈ L := by rw [hL]; exact (mem_chn hwl).2 ⟨hil, hch⟩
      rw [List.contains_iff_mem.2 this] at hct
      cases hct
    by_cases hbn : below L i < L.length
    · have hbn1 : ((below L i : Nat) : Int) < ((L.length : Nat) : Int) := by omega
      have cL := (OL6.ext x).ints.cell (j := below L i) (by rw [zsN_length]; exact hbn)
      rw [zsN_at] at cL
      by_cases hik : ((L.getD (below L i) 0 : Nat) : Int) = ((i : Nat) : Int)
      · have hct : L.contains i = true := by
          rw [← hbin, decide_eq_true hbn, Bool.true_and]
          exact decide_eq_true (by omega)
        have him : i ∈ L := List.contains_iff_mem.1 hct
        have himc : i ∈ chnL ws (zsN G) (w : Int) (d : Int) := by rw [← hL]; exact him
        obtain ⟨hi1, hi2⟩ := (mem_chn hwl).1 himc
        have hcol := hi2.col
        obtain ⟨ot, hot⟩ : ∃ ot, ot = MB.oth (dG G) w d (dG G i) := ⟨_, rfl⟩
        have hone : ot ≠ dG G i := by rw [hot]; exact oth_ne heq hcol
        have hQi : Q.getD i 0 = ot := by rw [hQ, sw_at hwl hil, MB.swp_in hi2, hot]
        have hot14 : ot < 14 := by rw [← hQi]; exact sL _ (MB.getD_mem (by omega))
        have hEi : chnE (s : Int) (mm : Int) ws (zsN G) (i : Int) (ot : Int) = 0 := by rw [chnE_D gD hGw hil hot14, if_neg (fun e => hone e.symm)]
        have hGi14 : dG G i < 14 := h14 _ (MB.getD_mem (by omega))
        have hEs : chnE (s : Int) (mm : Int) ws (zsN Q) (i : Int) (dG G i : Nat) = 0 := by rw [chnE_D sD hQl hil hGi14, if_neg (fun e => hone (by rw [← hQi]; exact e))]
        rw [hct, if_pos rfl] at hstep
        obtain ⟨tb, htb⟩ : ∃ tb, decide (((G.getD i 0 : Nat) : Int) = ((d : Nat) : Int)) = tb := ⟨_, rfl⟩
        simp only [he, he18, hlt, hbn1, cL, hik, cG, htb, decide_true, Int.toNat_natCast, coreS, Value.cells, Value.oneCell', Nat.reduceAdd, Nat.reduceSub, Nat.reduceMul, Nat.reduceLeDiff, Int.reduceEq, Nat.reduceEqDiff, M22Fs7]
        refine ⟨by omega, sLs, by rw [inK_i64]; omega, by omega, sG, ?_⟩
        refine cd_cut [21, 157, 158, 159, 160, 161] (fun g h7 => h7 = h' ∧ g 21 = .int .i64 (ot : Nat)) ?_ ?_
        · cases tb with
          | true =>
            have e1 : G.getD i 0 = d := by have := of_decide_eq_true htb; omega
            have e2 : ot = G.getD w 0 := by rw [hot]; unfold MB.oth; rw [if_pos (show dG G i = d from e1)]
            have cw' := (OG6.ext x).ints.cell (j := w) (by omega)
            rw [zsN_at] at cw'
            simp only [cw', Int.toNat_natCast, coreS, Value.cells, Value.oneCell', Nat.reduceAdd, Nat.reduceSub, Nat.reduceMul, Nat.reduceLeDiff, Int.reduceEq, Nat.reduceEqDiff, M22Fs7]
            refine ⟨⟨by omega, by omega⟩, sG, ?_⟩
            exact midK_mk (by kernel_rfl) ⟨rfl, by rw [e2]; rfl⟩
          | false =>
            have e1 : ¬ G.getD i 0 = d := fun e => by have := of_decide_eq_false htb; exact this (by rw [e])
            have e2 : ot = d := by rw [hot]; unfold MB.oth; rw [if_neg (show ¬ dG G i = d from e1)]
            simp only [coreS, Value.cells, Value.oneCell', Nat.reduceAdd, Nat.reduceSub, Nat.reduceMul, Nat.reduceLeDiff, Int.reduceEq, Nat.reduceEqDiff, M22Fs7]
            exact midK_mk (by kernel_rfl) ⟨rfl, by rw [e2]; rfl⟩
        rintro g7 h7 ⟨rfl, hg21⟩
        simp only [hb', hg21, he, coreS, Value.cells, Value.oneCell', Nat.reduceAdd, Nat.reduceSub, Nat.reduceMul, Nat.reduceLeDiff, Int.reduceEq, Nat.reduceEqDiff, M22Fs7]
        refine CallsH.mono (chain40 s mm a n c ws aG n capG (zsN G) i ot h7 (hr.ext y') hn (by omega) (OG6.ext x).ints (by omega)) ?_
        rintro v h8 ⟨PC2, x8⟩
        obtain ⟨aC, capC, rfl, OC⟩ := PC2.ok hEi
        have eC : chnL ws (zsN G) (i : Int) (ot : Int) = L := by rw [hL, hot]; exact chn_same hwl heq himc
        rw [eC] at OC ⊢
        have y8 := y'.trans x8
        have x68 := x.trans x8
        have hb8 := x8.get hb'
        simp only [coreS, Value.cells, Value.oneCell', Nat.reduceAdd, Nat.reduceSub, Nat.reduceMul, Nat.reduceLeDiff, Int.reduceEq, Nat.reduceEqDiff, M22Fs7]
        refine WP_cut [24, 25, 170, 171, 172, 173, 174, 175, 176, 177, 178, 179, 180] (fun g h9 => Ext h8 h9 ∧ g 25 = .int .i64 0 ∧ ∃ aB capB, g 24 = .slice aB ws.length capB ∧ IntsV h9 aB ws.length (zsN G)) ?_ ?_
        · refine WP_tree (by kernel_rfl) sta_ext (.quiet 0 (.quiet 1 (.quiet 2 (.quiet 3 (.quiet 4 (.quiet 5 (.quiet 6 (.keep 7 (.quiet 8 (.quiet 9 (.quiet 10 (.quiet 11 (.quiet 12 (.fin)))))))))))))) (by kernel_rfl) rfl (by kernel_rfl) ?_
          have cG8 := (OG6.ext x68).ints.cell (j := i) (by omega)
          rw [zsN_at] at cG8
          simp only [he, hb8, cG8, Int.toNat_natCast, coreS, Value.cells, Value.oneCell', Nat.reduceAdd, Nat.reduceSub, Nat.reduceMul, Nat.reduceLeDiff, Int.reduceEq, Nat.reduceEqDiff, drawS, treeS, M22Fs7]
          refine ⟨⟨by omega, by omega⟩, sG, ?_⟩
          refine execT_keep fun h9 x9 => ?_
          simp only [coreS, Value.cells, Value.oneCell', Nat.reduceAdd, Nat.reduceSub, Nat.reduceMul, Nat.reduceLeDiff, Int.reduceEq, Nat.reduceEqDiff, drawS, treeS, M22Fs7]
          refine CallsH.mono (swap39 s mm a n c ws aS ws.length capS (zsN Q) i (dG G i : Nat) h9 (hr.ext (y8.trans x9)) hn (by omega) ((OS6.ext x68).ext x9).ints (by omega)) ?_
          rintro v h10 ⟨PB, x10⟩
          obtain ⟨aB, capB, rfl, OB⟩ := PB.ok hEs
          have eB : swL ws (zsN Q) (i : Int) (dG G i : Nat) = G := by rw [hQ]; exact sw_back hwl hGw heq himc
          rw [eB] at OB
          refine ⟨x10, ?_⟩
          simp only [coreS, Value.cells, Value.oneCell', Nat.reduceAdd, Nat.reduceSub, Nat.reduceMul, Nat.reduceLeDiff, Int.reduceEq, Nat.reduceEqDiff, drawS, treeS, M22Fs7]
          refine execT_fin fun h11 x11 => ?_
          simp only [thenK_normal]
          exact midK_mk (by kernel_rfl) ⟨(x9.trans x10).trans x11, rfl, aB, capB, rfl, (OB.ext x11).ints⟩
        rintro g9 h9 ⟨x9, hg25, aB, capB, hg24, IB⟩
        have x69 := x68.trans x9
        have y9 := y8.trans x9
        have cS9 := (OS6.ext x69).ints.cell (j := i) (by rw [zsN_length]; omega)
        rw [zsN_at, hQi] at cS9
        simp only [he, hg24, hg25, hg21, cS9, decide_true, Bool.not_true, Int.toNat_natCast, eq_self, coreS, Value.cells, Value.oneCell', Nat.reduceAdd, Nat.reduceSub, Nat.reduceMul, Nat.reduceLeDiff, Int.reduceEq, Nat.reduceEqDiff, M22Fs7]
        refine ⟨⟨by omega, by omega⟩, sSs, ?_⟩
        refine CallsH.mono (ints24 aC aL L.length capC L.length capL (zsN L) (zsN L) h9 (OC.ext x9).ints (OL6.ext x69).ints (by omega)) ?_
        rintro v h10 ⟨rfl, rfl⟩
        simp only [hg25, decide_true, Bool.not_true, eq_self, coreS, Value.cells, Value.oneCell', Nat.reduceAdd, Nat.reduceSub, Nat.reduceMul, Nat.reduceLeDiff, Int.reduceEq, Nat.reduceEqDiff, M22Fs7]
        refine CallsH.mono (ints24 aB aG ws.length capB n capG (zsN G) (zsN G) h10 IB (OG6.ext x69).ints (by omega)) ?_
        rintro v h11 ⟨rfl, rfl⟩
        simp only [decide_true, Bool.not_true, eq_self, coreS, Value.cells, Value.oneCell', Nat.reduceAdd, Nat.reduceSub, Nat.reduceMul, Nat.reduceLeDiff, Int.reduceEq, Nat.reduceEqDiff, M22Fs7]
        refine WP_draw (by kernel_rfl) sta_eq [(0, 0), (1, 0), (2, 0), (3, 0), (4, 0), (5, 0), (6, 0), (7, 0), (8, 0), (9, 0), (10, 0), (11, 0), (12, 0)] (by kernel_rfl) rfl (by kernel_rfl) ?_
        simp only [he, he18, hvK_eq, Bool.not_true, coreS, Value.cells, Value.oneCell', Nat.reduceAdd, Nat.reduceSub, Nat.reduceMul, Nat.reduceLeDiff, Int.reduceEq, Nat.reduceEqDiff, drawS, M22Fs7]
        refine ⟨by rw [inK_i64]; omega, roundK_mk (by kernel_rfl) ⟨x69, i + 1, by omega, rfl, by rw [hstep]; rfl⟩ ?_⟩
        show n - ((i : Int) + 1).toNat < n - (i : Int).toNat
        omega
      · have hct : L.contains i = false := by
          rw [← hbin, decide_eq_true hbn, Bool.true_and]
          exact decide_eq_false fun e => hik (by rw [e])
        simp only [he, he18, hlt, hbn1, cL, hik, decide_true, decide_false, Int.toNat_natCast, coreS, Value.cells, Value.oneCell', Nat.reduceAdd, Nat.reduceSub, Nat.reduceMul, Nat.reduceLeDiff, Int.reduceEq, Nat.reduceEqDiff, M22Fs7]
        refine ⟨by omega, sLs, ?_⟩
        have hQG := no hct
        refine WP_draw (by kernel_rfl) sta_eq [(0, 0), (1, 0), (2, 0), (3, 0), (4, 0), (5, 0), (6, 0), (7, 0), (8, 0), (9, 0), (10, 0), (11, 0), (12, 0)] (by kernel_rfl) rfl (by kernel_rfl) ?_
        simp only [he, he18, cS, cG, hQG, eq_self, decide_true, Bool.not_false, Bool.not_true, Int.toNat_natCast, hvK_eq, coreS, Value.cells, Value.oneCell', Nat.reduceAdd, Nat.reduceSub, Nat.reduceMul, Nat.reduceLeDiff, Int.reduceEq, Nat.reduceEqDiff, drawS, M22Fs7]
        refine ⟨⟨by omega, by omega⟩, sSs, ⟨by omega, by omega⟩, sG, ?_⟩
        refine ⟨by rw [inK_i64]; omega, roundK_mk (by kernel_rfl) ⟨x, i + 1, by omega, rfl, by rw [hstep, hct]; rfl⟩ ?_⟩
        show n - ((i : Int) + 1).toNat < n - (i : Int).toNat
        omega
    · have hbn1 : ¬ ((below L i : Nat) : Int) < ((L.length : Nat) : Int) := by omega
      have hct : L.contains i = false := by rw [← hbin, decide_eq_false hbn, Bool.false_and]
      simp only [he, he18, hlt, hbn1, decide_true, decide_false, Int.toNat_natCast, coreS, Value.cells, Value.oneCell', Nat.reduceAdd, Nat.reduceSub, Nat.reduceMul, Nat.reduceLeDiff, Int.reduceEq, Nat.reduceEqDiff, M22Fs7]
      have hQG := no hct
      refine WP_draw (by kernel_rfl) sta_eq [(0, 0), (1, 0), (2, 0), (3, 0), (4, 0), (5, 0), (6, 0), (7, 0), (8, 0), (9, 0), (10, 0), (11, 0), (12, 0)] (by kernel_rfl) rfl (by kernel_rfl) ?_
      simp only [he, he18, cS, cG, hQG, eq_self, decide_true, Bool.not_false, Bool.not_true, Int.toNat_natCast, hvK_eq, coreS, Value.cells, Value.oneCell', Nat.reduceAdd, Nat.reduceSub, Nat.reduceMul, Nat.reduceLeDiff, Int.reduceEq, Nat.reduceEqDiff, drawS, M22Fs7]
      refine ⟨⟨by omega, by omega⟩, sSs, ⟨by omega, by omega⟩, sG, ?_⟩
      refine ⟨by rw [inK_i64]; omega, roundK_mk (by kernel_rfl) ⟨x, i + 1, by omega, rfl, by rw [hstep, hct]; rfl⟩ ?_⟩
      show n - ((i : Int) + 1).toNat < n - (i : Int).toNat
      omega
  · obtain rfl : i = n := by omega
    have hlt : ¬ ((i : Int) < (i : Int)) := by omega
    have hbe : below L i = L.length := below_all fun x hx => by
      rw [hL] at hx
      have := ((mem_chn hwl).1 hx).1
      omega
    rw [hbe] at he18
    simp only [he, he18, hlt, decide_true, decide_false, coreS, Value.cells, Value.oneCell', Nat.reduceAdd, Nat.reduceSub, Nat.reduceMul, Nat.reduceLeDiff, Int.reduceEq, Nat.reduceEqDiff, M22Fs7]
    refine CallsH.mono (out _ y') ?_
    rintro v h8 ⟨rfl, x8⟩
    simp only [coreS, Value.cells, Value.oneCell', Nat.reduceAdd, Nat.reduceSub, Nat.reduceMul, Nat.reduceLeDiff, Int.reduceEq, Nat.reduceEqDiff, M22Fs7]
    exact x8
end Go.Proofs.Ytmgkeeefbfefgaa
