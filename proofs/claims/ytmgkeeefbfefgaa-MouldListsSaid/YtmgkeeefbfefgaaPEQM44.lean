/- Walks: ListOf, List and ShortError of the document. -/
import Derived.Test.YtmgkeeefbfefgaaPE12
namespace Go.Proofs.Ytmgkeeefbfefgaa
open Go Go.Proofs Go.Eng Go.Run Tab
set_option maxRecDepth 100000
set_option linter.unusedSimpArgs false
set_option linter.unusedVariables false
set_option linter.defProp false
set_option maxHeartbeats 2000000
set_option linter.defProp false
def M44Fs26 := (And.intro @agg24 (And.intro @inf24 @sz24))
def M44Fs35 := (And.intro (And.intro @agg24 @inf24) (And.intro @sz24 @Try.underlying25))
def M44Fs67 := (And.intro (And.intro (And.intro @agg22 (And.intro @agg24 @by3)) (And.intro @fo24_2 (And.intro @inf22 @inf24))) (And.intro (And.intro @inf3 (And.intro @sz22 @sz24)) (And.intro (And.intro @sz3 @zero3) (And.intro @Try.underlying22 @Try.underlying25))))
def lofp (sh mo : Nat → Nat) (n f : Nat) (bg : List Nat) (fr i : Nat) : List Nat := (List.range' fr (i - fr)).foldl (fun best i => if MB.ok1 sh mo bg i then (if best.length < (MB.lof sh mo n f (bg ++ [i]) (i + 1)).length then MB.lof sh mo n f (bg ++ [i]) (i + 1) else best) else best) bg
theorem lofp_start {sh mo : Nat → Nat} {n f : Nat} {bg : List Nat} {fr : Nat} : lofp sh mo n f bg fr fr = bg := by simp [lofp]
theorem lofp_next {sh mo : Nat → Nat} {n f : Nat} {bg : List Nat} {fr i : Nat} (hi : fr ≤ i) : lofp sh mo n f bg fr (i + 1) = if MB.ok1 sh mo bg i then (if (lofp sh mo n f bg fr i).length < (MB.lof sh mo n f (bg ++ [i]) (i + 1)).length then MB.lof sh mo n f (bg ++ [i]) (i + 1) else lofp sh mo n f bg fr i) else lofp sh mo n f bg fr i := by
  unfold lofp
  rw [show i + 1 - fr = (i - fr) + 1 by omega, List.range'_concat, List.foldl_append]
  simp only [List.foldl_cons, List.foldl_nil, Nat.one_mul, show fr + (i - fr) = i by omega]
theorem ok1_free {sh mo : Nat → Nat} {bg : List Nat} {i : Nat} (hf : MB.free sh mo bg) : MB.free sh mo (bg ++ [i]) ↔ MB.ok1 sh mo bg i = true := by
  rw [free_snoc, MB.ok1, List.all_eq_true]
  constructor
  · rintro ⟨_, h⟩ x hx
    rw [MB.clash_no.2 (h x hx)]; rfl
  · intro h
    refine ⟨hf, fun x hx => MB.clash_no.1 ?_⟩
    simpa using h x hx
theorem listOf67 (S M : Nat) (a : Option Addr) (n c : Nat) (ws : List Wn) (hn : n = ws.length) (V : Vb S M ws) : ∀ (f : Nat) (b : Option Addr) (d : Nat) (bg : List Nat) (fr : Nat) (h : Eng.Heap), Row h a (wsV ws) → n - fr < f → fr ≤ n → bg.length ≤ fr → (∀ x ∈ bg, x < n) → MB.free (shN ws) (moN ws) bg → IntsV h b bg.length (zsN bg) →
    CallsH Try.prog 67 #[.agg #[.int .i64 S, .int .i64 M, .slice a n c], .slice b bg.length d, .int .i64 fr] h (fun v h' => (∃ a' c', v = .slice a' (MB.lof (shN ws) (moN ws) n f bg fr).length c' ∧ IntsV h' a' (MB.lof (shN ws) (moN ws) n f bg fr).length (zsN (MB.lof (shN ws) (moN ws) n f bg fr))) ∧ Ext h h')
  | 0, b, d, bg, fr, h, hr, hf, _, _, _, _, _ => absurd hf (by omega)
  | f + 1, b, d, bg, fr, h, hr, hf, hfr, hbl, hbn, hfree, I => by
    have hV := V.n
    (refine CallsH_of_exec Try.func67 rfl bod67 ?_; simp only [Try.ntmps67, Try.results67, coreS, stK_some, splice, Value.cells, Value.oneCell', Nat.reduceAdd, Nat.reduceSub, Nat.reduceMul, Nat.reduceLeDiff, Int.reduceEq, Nat.reduceEqDiff, M44Fs67])
    have x0 : Ext h (h.push (.cells #[.int .i64 S, .int .i64 M, .slice a n c] 24)) := (Ext.refl h).push _
    have q0 := push_new (h := h) (o := .cells #[.int .i64 S, .int .i64 M, .slice a n c] 24)
    generalize h.push (.cells #[.int .i64 S, .int .i64 M, .slice a n c] 24) = hh at x0 q0 ⊢
    refine WP_loopI [7, 8, 9, 10, 13, 14, 15, 16, 17, 18, 19, 20, 21, 22, 23, 24, 25, 26, 27, 28, 29, 30, 31, 32, 33, 34, 35, 36, 37, 38, 39, 40] (fun e h' => Ext hh h' ∧ ∃ i : Nat, fr ≤ i ∧ i ≤ n ∧ e 8 = .int .i64 i ∧ ∃ aB cB, e 7 = .slice aB (lofp (shN ws) (moN ws) n f bg fr i).length cB ∧ IntsV h' aB (lofp (shN ws) (moN ws) n f bg fr i).length (zsN (lofp (shN ws) (moN ws) n f bg fr i))) (fun e _ => match e 8 with | .int _ q => n - q.toNat | _ => 0) ⟨Ext.refl _, fr, Nat.le_refl _, hfr, rfl, b, d, by rw [lofp_start]; rfl, by rw [lofp_start]; exact I.ext x0⟩ ?_
    rintro e h1 ⟨x1, i, hi0, hi, he, aB, cB, heB, IB⟩
    have q1 := x1.get q0
    have y1 := x0.trans x1
    by_cases hin : i < n
    case neg =>
      obtain rfl : i = n := by omega
      simp only [he, heB, q1, show ¬ ((i : Int) < (i : Int)) by omega, decide_false, coreS, Value.cells, Value.oneCell', Nat.reduceAdd, Nat.reduceSub, Nat.reduceMul, Nat.reduceLeDiff, Int.reduceEq, Nat.reduceEqDiff, M44Fs67]
      exact ⟨⟨aB, cB, rfl, IB⟩, y1⟩
    have hlt : (i : Int) < (n : Int) := by omega
    have meas : n - ((i : Int) + 1).toNat < n - (i : Int).toNat := by omega
    have hnx := lofp_next (sh := shN ws) (mo := moN ws) (n := n) (f := f) (bg := bg) hi0
    simp only [he, heB, q1, hlt, decide_true, coreS, Value.cells, Value.oneCell', Nat.reduceAdd, Nat.reduceSub, Nat.reduceMul, Nat.reduceLeDiff, Int.reduceEq, Nat.reduceEqDiff, M44Fs67]
    have E0 : OwnI h1.size (h1.push (.cells #[] 3)) 3 (some ⟨h1.size, 0, none⟩) 0 0 [] := OwnI.of_block (xs := []) (tl := []) (Nat.le_refl _) (by simp [Eng.ints, push_new]) (by simp) (by simp)
    have xe : Ext h1 (h1.push (.cells #[] 3)) := (Ext.refl h1).push _
    refine app25 (m0 := h1.size) (len := 0) (xs := []) (ys := zsN bg) rfl rfl E0 (by rw [push_size]; omega) ((I.ext y1).ext xe) (by omega) fun a2 c2 h2 O2 A2 => ?_
    have x2 : Ext h1 h2 := A2.extN E0 xe (Nat.le_refl _)
    rw [Nat.zero_add, List.nil_append] at O2
    rw [Nat.zero_add]
    simp only [he, coreS, Value.cells, Value.oneCell', Nat.reduceAdd, Nat.reduceSub, Nat.reduceMul, Nat.reduceLeDiff, Int.reduceEq, Nat.reduceEqDiff, M44Fs67]
    have xf : Ext h2 (h2.push (.cells #[.int .i64 (i : Int)] 3)) := (Ext.refl h2).push _
    refine app25 (m0 := h1.size) (len := bg.length) (m := 1) (ys := [(i : Int)]) rfl rfl (O2.ext xf) (by rw [push_size]; have := x2.size; omega) (intsV_one push_new) (by omega) fun a3 c3 h3 O3 A3 => ?_
    have x3 : Ext h1 h3 := A3.extN (O2.ext xf) (x2.trans xf) (Nat.le_refl _)
    have ezn : zsN bg ++ [(i : Int)] = zsN (bg ++ [i]) := by simp [zsN]
    have ell : bg.length + 1 = (bg ++ [i]).length := by simp
    rw [ezn, ell] at O3
    rw [ell]
    have q3 := x3.get q1
    have y3 := y1.trans x3
    have I3 := O3.ints
    have hb3 : ∀ x ∈ bg ++ [i], x < n := fun x hx => by
      rcases List.mem_append.1 hx with hx | hx
      · exact hbn x hx
      · rw [List.mem_singleton] at hx; omega
    simp only [q3, coreS, Value.cells, Value.oneCell', Nat.reduceAdd, Nat.reduceSub, Nat.reduceMul, Nat.reduceLeDiff, Int.reduceEq, Nat.reduceEqDiff, M44Fs67]
    refine CallsH.mono (isDay74 S M a n c ws a3 (bg ++ [i]).length c3 (zsN (bg ++ [i])) h3 (hr.ext y3) hn V I3 (by simp; omega) (fun j hj => by
      rw [zsN_getD]
      rw [zsN_length] at hj
      have := hb3 _ (MB.mem_getD hj)
      omega)) ?_
    rintro v h4 ⟨⟨r, rfl, hriff⟩, x4⟩
    rw [natL_zsN, ok1_free hfree] at hriff
    have q4 := x4.get q3
    have y4 := y3.trans x4
    have x14 := x3.trans x4
    cases r with
    | false =>
      have hk : ¬ MB.ok1 (shN ws) (moN ws) bg i = true := fun e => by simpa using hriff.2 e
      rw [if_neg hk] at hnx
      simp only [he, heB, Bool.not_false, coreS, Value.cells, Value.oneCell', Nat.reduceAdd, Nat.reduceSub, Nat.reduceMul, Nat.reduceLeDiff, Int.reduceEq, Nat.reduceEqDiff, M44Fs67]
      refine ⟨by rw [inK_i64]; omega, roundK_mk (by kernel_rfl) ⟨x1.trans x14, i + 1, by omega, by omega, rfl, aB, cB, ?_, ?_⟩ meas⟩
      · rw [hnx]; rfl
      · rw [hnx]; exact IB.ext x14
    | true =>
      have hk : MB.ok1 (shN ws) (moN ws) bg i = true := hriff.1 rfl
      rw [if_pos hk] at hnx
      have hfr3 := (ok1_free hfree).2 hk
      have ei : (i : Int) + 1 = ((i + 1 : Nat) : Int) := by omega
      simp only [he, q4, Bool.not_true, coreS, Value.cells, Value.oneCell', Nat.reduceAdd, Nat.reduceSub, Nat.reduceMul, Nat.reduceLeDiff, Int.reduceEq, Nat.reduceEqDiff, M44Fs67]
      refine ⟨by rw [inK_i64]; omega, ?_⟩
      rw [ei]
      refine CallsH.mono (listOf67 S M a n c ws hn V f a3 c3 (bg ++ [i]) (i + 1) h4 (hr.ext y4) (by omega) (by omega) (by simp; omega) hb3 hfr3 (I3.ext x4)) ?_
      rintro v h5 ⟨⟨a5, c5, rfl, I5⟩, x5⟩
      have x15 := x14.trans x5
      obtain ⟨l5, hl5⟩ : ∃ l5, l5 = MB.lof (shN ws) (moN ws) n f (bg ++ [i]) (i + 1) := ⟨_, rfl⟩
      rw [← hl5] at hnx I5
      rw [← hl5]
      by_cases hlen : ((lofp (shN ws) (moN ws) n f bg fr i).length : Int) < (l5.length : Int)
      · rw [if_pos (by omega)] at hnx
        simp only [he, heB, hlen, decide_true, coreS, Value.cells, Value.oneCell', Nat.reduceAdd, Nat.reduceSub, Nat.reduceMul, Nat.reduceLeDiff, Int.reduceEq, Nat.reduceEqDiff, M44Fs67]
        refine ⟨by rw [inK_i64]; omega, roundK_mk (by kernel_rfl) ⟨x1.trans x15, i + 1, by omega, by omega, rfl, a5, c5, ?_, ?_⟩ meas⟩
        · rw [hnx]; rfl
        · rw [hnx]; exact I5
      · rw [if_neg (by omega)] at hnx
        simp only [he, heB, hlen, decide_false, coreS, Value.cells, Value.oneCell', Nat.reduceAdd, Nat.reduceSub, Nat.reduceMul, Nat.reduceLeDiff, Int.reduceEq, Nat.reduceEqDiff, M44Fs67]
        refine ⟨by rw [inK_i64]; omega, roundK_mk (by kernel_rfl) ⟨x1.trans x15, i + 1, by omega, by omega, rfl, aB, cB, ?_, ?_⟩ meas⟩
        · rw [hnx]; rfl
        · rw [hnx]; exact IB.ext x15
theorem mx_all {S M : Nat} {ws : List Wn} (V : Vb S M ws) : ∀ l : List Nat, (∀ i, i ∈ l → i < ws.length) → MB.Mx (shN ws) (moN ws) l (mxv S M ws l) := fun l hl => mxv_Mx V l hl
/-- The document's list is the program's. -/
theorem lof_lsN {S M : Nat} {ws : List Wn} (V : Vb S M ws) : MB.lof (shN ws) (moN ws) ws.length (ws.length + 1) [] 0 = lsN S M ws := MB.list_same (mx_all V)
theorem listOf67a (S M : Nat) (a : Option Addr) (n c : Nat) (ws : List Wn) (h : Eng.Heap) (hr : Row h a (wsV ws)) (hn : n = ws.length) (V : Vb S M ws) :
    CallsH Try.prog 67 #[.agg #[.int .i64 S, .int .i64 M, .slice a n c], .slice none 0 0, .int .i64 0] h (fun v h' => (∃ a' c', v = .slice a' (lsN S M ws).length c' ∧ IntsV h' a' (lsN S M ws).length (zsN (lsN S M ws))) ∧ Ext h h') := by
  have := listOf67 S M a n c ws hn V (n + 1) none 0 [] 0 h hr (by omega) (by omega) (by simp) (fun x hx => by simp at hx) List.Pairwise.nil (IntsV.nil _)
  rw [hn] at this
  rw [lof_lsN V] at this
  rw [hn]
  exact this
/-- What List returns. -/
theorem list26 (S M : Int) (a : Option Addr) (n c : Nat) (ws : List Wn) (h : Eng.Heap) (hr : Row h a (wsV ws)) (hn : n = ws.length) (hl : n ≤ 1000000) :
    CallsH Try.prog 26 #[.agg #[.int .i64 S, .int .i64 M, .slice a n c]] h (fun v h' =>
      ((∃ s m : Nat, S = s ∧ M = m ∧ Vb s m ws ∧ ∃ a' c', v = .tuple #[.slice a' (lsN s m ws).length c', .int .i64 0] ∧ IntsV h' a' (lsN s m ws).length (zsN (lsN s m ws))) ∨
       (chk S M ws ≠ 0 ∧ v = .tuple #[.slice none 0 0, .int .i64 (chk S M ws)])) ∧ Ext h h') := by
  (refine CallsH_of_exec Try.func26 rfl bod26 ?_; simp only [Try.ntmps26, Try.results26, coreS, stK_some, splice, Value.cells, Value.oneCell', Nat.reduceAdd, Nat.reduceSub, Nat.reduceMul, Nat.reduceLeDiff, Int.reduceEq, Nat.reduceEqDiff, M44Fs26])
  have x0 : Ext h (h.push (.cells #[.int .i64 S, .int .i64 M, .slice a n c] 24)) := (Ext.refl h).push _
  have q0 := push_new (h := h) (o := .cells #[.int .i64 S, .int .i64 M, .slice a n c] 24)
  generalize h.push (.cells #[.int .i64 S, .int .i64 M, .slice a n c] 24) = hh at x0 q0 ⊢
  refine CallsH.mono (check23 S M a n c ws hh (hr.ext x0) hn hl) ?_
  rintro v h1 ⟨rfl, x1⟩
  have y1 := x0.trans x1
  have k0 := x1.get q0
  by_cases hc : chk S M ws = 0
  case neg =>
    simp only [hc, k0, decide_false, Bool.not_false, coreS, Value.cells, Value.oneCell', Nat.reduceAdd, Nat.reduceSub, Nat.reduceMul, Nat.reduceLeDiff, Int.reduceEq, Nat.reduceEqDiff, M44Fs26]
    refine CallsH.mono (check23 S M a n c ws h1 (hr.ext y1) hn hl) ?_
    rintro v h2 ⟨rfl, x2⟩
    simp only [coreS, Value.cells, Value.oneCell', Nat.reduceAdd, Nat.reduceSub, Nat.reduceMul, Nat.reduceLeDiff, Int.reduceEq, Nat.reduceEqDiff, M44Fs26]
    exact ⟨.inr hc, y1.trans x2⟩
  obtain ⟨s, m, rfl, rfl, V⟩ := chk_ok hc
  simp only [hc, k0, decide_true, Bool.not_true, coreS, Value.cells, Value.oneCell', Nat.reduceAdd, Nat.reduceSub, Nat.reduceMul, Nat.reduceLeDiff, Int.reduceEq, Nat.reduceEqDiff, M44Fs26]
  refine CallsH.mono (listOf67a s m a n c ws h1 (hr.ext y1) hn V) ?_
  rintro v h2 ⟨⟨a', c', rfl, I2⟩, x2⟩
  simp only [coreS, Value.cells, Value.oneCell', Nat.reduceAdd, Nat.reduceSub, Nat.reduceMul, Nat.reduceLeDiff, Int.reduceEq, Nat.reduceEqDiff, M44Fs26]
  exact ⟨.inl ⟨s, m, rfl, rfl, V, a', c', rfl, I2⟩, y1.trans x2⟩
open Classical in
/-- What ShortError returns. -/
noncomputable def sheE (S M : Int) (ws : List Wn) : Int := if chk S M ws ≠ 0 then chk S M ws else if (lsN S.toNat M.toNat ws).length = (MB.wnt (shN ws) ws.length S.toNat).length then 5 else 0
theorem shortError35 (S M : Int) (a : Option Addr) (n c : Nat) (ws : List Wn) (h : Eng.Heap) (hr : Row h a (wsV ws)) (hn : n = ws.length) (hl : n ≤ 1000000) :
    CallsH Try.prog 35 #[.agg #[.int .i64 S, .int .i64 M, .slice a n c]] h (fun v h' => v = .int .i64 (sheE S M ws) ∧ Ext h h') := by
  (refine CallsH_of_exec Try.func35 rfl bod35 ?_; simp only [Try.ntmps35, Try.results35, coreS, stK_some, splice, Value.cells, Value.oneCell', Nat.reduceAdd, Nat.reduceSub, Nat.reduceMul, Nat.reduceLeDiff, Int.reduceEq, Nat.reduceEqDiff, M44Fs35])
  have x0 : Ext h (h.push (.cells #[.int .i64 S, .int .i64 M, .slice a n c] 24)) := (Ext.refl h).push _
  have q0 := push_new (h := h) (o := .cells #[.int .i64 S, .int .i64 M, .slice a n c] 24)
  generalize h.push (.cells #[.int .i64 S, .int .i64 M, .slice a n c] 24) = hh at x0 q0 ⊢
  refine CallsH.mono (check23 S M a n c ws hh (hr.ext x0) hn hl) ?_
  rintro v h1 ⟨rfl, x1⟩
  have y1 := x0.trans x1
  have k0 := x1.get q0
  by_cases hc : chk S M ws = 0
  case neg =>
    simp only [hc, k0, decide_false, Bool.not_false, coreS, Value.cells, Value.oneCell', Nat.reduceAdd, Nat.reduceSub, Nat.reduceMul, Nat.reduceLeDiff, Int.reduceEq, Nat.reduceEqDiff, M44Fs35]
    refine CallsH.mono (check23 S M a n c ws h1 (hr.ext y1) hn hl) ?_
    rintro v h2 ⟨rfl, x2⟩
    simp only [coreS, Value.cells, Value.oneCell', Nat.reduceAdd, Nat.reduceSub, Nat.reduceMul, Nat.reduceLeDiff, Int.reduceEq, Nat.reduceEqDiff, M44Fs35]
    exact ⟨by unfold sheE; rw [if_pos hc], y1.trans x2⟩
  obtain ⟨s, m, rfl, rfl, V⟩ := chk_ok hc
  have hV := V.n
  simp only [hc, decide_true, Bool.not_true, coreS, Value.cells, Value.oneCell', Nat.reduceAdd, Nat.reduceSub, Nat.reduceMul, Nat.reduceLeDiff, Int.reduceEq, Nat.reduceEqDiff, M44Fs35]
  refine WP_tree (by kernel_rfl) sta_ext (.quiet 0 (.quiet 3 (.keep 1 (.quiet 2 (.keep 4 (.quiet 5 (.fin))))))) (by kernel_rfl) rfl (by kernel_rfl) ?_
  simp only [k0, coreS, Value.cells, Value.oneCell', Nat.reduceAdd, Nat.reduceSub, Nat.reduceMul, Nat.reduceLeDiff, Int.reduceEq, Nat.reduceEqDiff, drawS, treeS, M44Fs35]
  refine execT_keep fun h2 x2 => ?_
  have y2 := y1.trans x2
  simp only [coreS, Value.cells, Value.oneCell', Nat.reduceAdd, Nat.reduceSub, Nat.reduceMul, Nat.reduceLeDiff, Int.reduceEq, Nat.reduceEqDiff, drawS, treeS, M44Fs35]
  refine CallsH.mono (listOf67a s m a n c ws h2 (hr.ext y2) hn V) ?_
  rintro v h3 ⟨⟨a', c', rfl, I3⟩, x3⟩
  refine ⟨x3, ?_⟩
  try simp only [coreS, Value.cells, Value.oneCell', Nat.reduceAdd, Nat.reduceSub, Nat.reduceMul, Nat.reduceLeDiff, Int.reduceEq, Nat.reduceEqDiff, drawS, treeS, M44Fs35]
  refine execT_keep fun h4 x4 => ?_
  have y4 := (y2.trans x3).trans x4
  simp only [coreS, Value.cells, Value.oneCell', Nat.reduceAdd, Nat.reduceSub, Nat.reduceMul, Nat.reduceLeDiff, Int.reduceEq, Nat.reduceEqDiff, drawS, treeS, M44Fs35]
  refine CallsH.mono (wanting43 s m a n c ws h4 (hr.ext y4) hn V) ?_
  rintro v h5 ⟨rfl, x5⟩
  refine ⟨x5, ?_⟩
  try simp only [coreS, Value.cells, Value.oneCell', Nat.reduceAdd, Nat.reduceSub, Nat.reduceMul, Nat.reduceLeDiff, Int.reduceEq, Nat.reduceEqDiff, drawS, treeS, M44Fs35]
  have y5 := y4.trans x5
  by_cases hlen : (((lsN s m ws).length : Nat) : Int) = ((MB.wnt (shN ws) ws.length s).length : Nat)
  · simp only [hlen, decide_true, coreS, Value.cells, Value.oneCell', Nat.reduceAdd, Nat.reduceSub, Nat.reduceMul, Nat.reduceLeDiff, Int.reduceEq, Nat.reduceEqDiff, drawS, treeS, M44Fs35]
    refine execT_fin fun h6 x6 => ?_
    simp only [thenK_normal, coreS, Value.cells, Value.oneCell', Nat.reduceAdd, Nat.reduceSub, Nat.reduceMul, Nat.reduceLeDiff, Int.reduceEq, Nat.reduceEqDiff, M44Fs35]
    refine ⟨?_, y5.trans x6⟩
    unfold sheE
    rw [if_neg (by simpa using V.chk), Int.toNat_natCast, Int.toNat_natCast, if_pos (by omega)]
  · simp only [hlen, decide_false, coreS, Value.cells, Value.oneCell', Nat.reduceAdd, Nat.reduceSub, Nat.reduceMul, Nat.reduceLeDiff, Int.reduceEq, Nat.reduceEqDiff, drawS, treeS, M44Fs35]
    refine execT_fin fun h6 x6 => ?_
    simp only [thenK_normal, coreS, Value.cells, Value.oneCell', Nat.reduceAdd, Nat.reduceSub, Nat.reduceMul, Nat.reduceLeDiff, Int.reduceEq, Nat.reduceEqDiff, M44Fs35]
    refine ⟨?_, y5.trans x6⟩
    unfold sheE
    rw [if_neg (by simpa using V.chk), Int.toNat_natCast, Int.toNat_natCast, if_neg (by omega)]
end Go.Proofs.Ytmgkeeefbfefgaa
