/- MouldEither returns true. -/
import Derived.Test.YtmgkeeefbfefgaaPDQM37
import Derived.Test.YtmgkeeefbfefgaaPD12
import Derived.Test.YtmgkeeefbfefgaaPDQWork
namespace Go.Proofs.Ytmgkeeefbfefgaa
open Go Go.Proofs Go.Eng Go.Run Tab
set_option maxRecDepth 100000
set_option linter.unusedSimpArgs false
set_option linter.unusedVariables false
set_option linter.defProp false
set_option maxHeartbeats 8000000
set_option linter.defProp false
def M38Fs8 := (And.intro (And.intro (And.intro @agg22 (And.intro @agg24 @agg3)) (And.intro (And.intro @fo24_0 @fo24_1) (And.intro @fo24_2 @inf22))) (And.intro (And.intro @inf24 (And.intro @inf3 @sz22)) (And.intro (And.intro @sz24 @sz3) (And.intro @Try.underlying22 @Try.underlying25))))
theorem up_len {l : List Nat} {k : Nat} (h1 : l.Pairwise (· < ·)) (h2 : ∀ t ∈ l, t < k) : l.length ≤ k := by
  have := MB.nodup_le (m := List.range k) (h1.imp fun h => Nat.ne_of_lt h) fun x hx => List.mem_range.2 (h2 x hx)
  rwa [List.length_range] at this
/-- A list of rising numbers: what CheckList says. -/
theorem chkL_up {S M : Nat} {ws : List Wn} {l : List Nat} (V : Vb S M ws) (hu : l.Pairwise (· < ·)) (hl : ∀ x ∈ l, x < ws.length) : (chkL S M ws (zsN l) = 0 ∧ l.length ≤ (lsN S M ws).length) ∨ chkL S M ws (zsN l) = 18 := by
  by_cases hf : MB.free (shN ws) (moN ws) l
  · exact .inl ⟨chkL_good V hu hl hf, (lsN_Mx V).most _ hf fun i hi => List.mem_range.2 (hl i hi)⟩
  · right
    unfold chkL
    rw [if_neg (by simpa using V.chk), if_neg (by simpa using up_riseP hu hl), if_neg (by rw [natL_zsN]; exact hf)]
/-- Rising numbers of shops and moulds: what CheckCover says. -/
theorem covE_up {S M : Nat} {ws : List Wn} {X Y : List Nat} (V : Vb S M ws) (h1 : X.Pairwise (· < ·)) (h2 : ∀ x ∈ X, x < S) (h3 : Y.Pairwise (· < ·)) (h4 : ∀ x ∈ Y, x < M) : (covE S M ws (zsN X) (zsN Y) = 0 ∧ ((lsN S M ws).length : Int) ≤ covN S M ws (zsN X) (zsN Y)) ∨ covE S M ws (zsN X) (zsN Y) = 14 := by
  have r1 : riseB S (zsN X) = true := riseB_yes (up_riseP h1 h2)
  have r2 : riseB M (zsN Y) = true := riseB_yes (up_riseP h3 h4)
  by_cases hany : (ws.any fun w => !(zsN X).contains w.s && !(zsN Y).contains w.m) = true
  · right
    unfold covE
    rw [if_neg (by simpa using V.chk), if_neg (by rw [r1, r2]; simp), if_pos hany]
  · left
    have e1 : covE S M ws (zsN X) (zsN Y) = 0 := by
      unfold covE
      rw [if_neg (by simpa using V.chk), if_neg (by rw [r1, r2]; simp), if_neg hany]
    refine ⟨e1, ?_⟩
    unfold covN
    rw [if_pos e1, zsN_length, zsN_length]
    have I := lsG_inv (S := S) (M := M) (ws := ws) ws.length
    have := MB.cover_bound (X := X) (Y := Y) I.fr fun i hi => by
      have hiw := I.lt i hi
      have k1 := (V.s hiw).1
      have k2 := (V.m hiw).1
      by_cases hx : shN ws i ∈ X
      · exact .inl hx
      · refine .inr (Classical.byContradiction fun hy => hany (List.any_eq_true.2 ⟨wAt ws i, wAt_mem hiw, ?_⟩))
        rw [k1, k2, zsN_has, zsN_has]
        simp [hx, hy]
    unfold lsN
    omega
theorem either8 (S M : Int) (a : Option Addr) (n c : Nat) (ws : List Wn) (x y z : Int) (h : Eng.Heap) (hr : Row h a (wsV ws)) (hn : n = ws.length) (hx : 0 ≤ x ∧ x ≤ 65535) (hy : 0 ≤ y ∧ y ≤ 65535) (hz : 0 ≤ z ∧ z ≤ 65535) :
    CallsH Try.prog 8 #[.agg #[.int .i64 S, .int .i64 M, .slice a n c], .int .u16 x, .int .u16 y, .int .u16 z] h (fun v h' => v = .bool true ∧ Ext h h') := by
  (refine CallsH_of_exec Try.func8 rfl bod8 ?_; simp only [Try.ntmps8, Try.results8, coreS, stK_some, splice, Value.cells, Value.oneCell', Nat.reduceAdd, Nat.reduceSub, Nat.reduceMul, Nat.reduceLeDiff, Int.reduceEq, Nat.reduceEqDiff, M38Fs8])
  have x0 : Ext h (h.push (.cells #[.int .i64 S, .int .i64 M, .slice a n c] 24)) := (Ext.refl h).push _
  have hb0 := push_new (h := h) (o := .cells #[.int .i64 S, .int .i64 M, .slice a n c] 24)
  generalize h.push (.cells #[.int .i64 S, .int .i64 M, .slice a n c] 24) = hh at x0 hb0 ⊢
  refine CallsH.mono (fine36 S M a n c ws hh (hr.ext x0) hn) ?_
  rintro v h1 ⟨rfl, x1⟩
  have out : ∀ h1, Ext h h1 → CallsH Try.prog 17 #[] h1 (fun v h' => v = .bool true ∧ Ext h h') := fun h1 x => CallsH.mono (works17 h1) fun v h' q => ⟨q.1, x.trans q.2⟩
  have y1 := x0.trans x1
  have hb1 := x1.get hb0
  by_cases hc : chk S M ws = 0
  case neg =>
    simp only [hc, decide_false, Bool.not_false, coreS, Value.cells, Value.oneCell', Nat.reduceAdd, Nat.reduceSub, Nat.reduceMul, Nat.reduceLeDiff, Int.reduceEq, Nat.reduceEqDiff, M38Fs8]
    refine CallsH.mono (out _ y1) ?_
    rintro v h2 ⟨rfl, x2⟩
    simp only [coreS, Value.cells, Value.oneCell', Nat.reduceAdd, Nat.reduceSub, Nat.reduceMul, Nat.reduceLeDiff, Int.reduceEq, Nat.reduceEqDiff, M38Fs8]
    exact x2
  obtain ⟨s, m, rfl, rfl, V⟩ := chk_ok hc
  have hV := V.n
  have v2 := V.s2
  have v4 := V.m2
  have hll := lsN_le V
  simp only [hc, hb1, decide_true, Bool.not_true, coreS, Value.cells, Value.oneCell', Nat.reduceAdd, Nat.reduceSub, Nat.reduceMul, Nat.reduceLeDiff, Int.reduceEq, Nat.reduceEqDiff, M38Fs8]
  refine CallsH.mono (best41 s m a n c ws h1 (hr.ext y1) hn V) ?_
  rintro v h2 ⟨⟨a2, c2, rfl, O2⟩, x2⟩
  have y2 := y1.trans x2
  simp only [x2.get hb1, coreS, Value.cells, Value.oneCell', Nat.reduceAdd, Nat.reduceSub, Nat.reduceMul, Nat.reduceLeDiff, Int.reduceEq, Nat.reduceEqDiff, M38Fs8]
  refine CallsH.mono (cover29 s m a n c ws h2 (hr.ext y2) hn (by omega)) ?_
  rintro v h3 ⟨⟨s', m', es, em, _, aX, cX, X, aY, cY, Y, rfl, IX, IY, P⟩ | ⟨hne, _⟩, x3⟩
  case inr => exact absurd V.chk hne
  obtain rfl : s = s' := by omega
  obtain rfl : m = m' := by omega
  have y3 := y2.trans x3
  have x13 := x2.trans x3
  have t1 : ¬ ((s : Nat) : Int) < (X.length : Nat) := by have := P.x1; omega
  have t2 : ¬ ((m : Nat) : Int) < (Y.length : Nat) := by have := P.y1; omega
  have px := P.x1
  have py := P.y1
  simp only [x13.get hb1, t1, t2, decide_true, decide_false, Bool.not_true, coreS, Value.cells, Value.oneCell', Nat.reduceAdd, Nat.reduceSub, Nat.reduceMul, Nat.reduceLeDiff, Int.reduceEq, Nat.reduceEqDiff, M38Fs8]
  refine CallsH.mono (cover27 s m a n c ws aX X.length cX (zsN X) aY Y.length cY (zsN Y) h3 (hr.ext y3) hn (by omega) IX IY (by omega) (by omega)) ?_
  rintro v h4 ⟨rfl, x4⟩
  rw [P.e, P.n]
  have x14 := x13.trans x4
  simp only [x14.get hb1, coreS, Value.cells, Value.oneCell', Nat.reduceAdd, Nat.reduceSub, Nat.reduceMul, Nat.reduceLeDiff, Int.reduceEq, Nat.reduceEqDiff, M38Fs8]
  refine CallsH.mono (cover28 s m a n c ws aX X.length cX (zsN X) aY Y.length cY (zsN Y) h4 (hr.ext (y3.trans x4)) hn (by omega) (IX.ext x4) (IY.ext x4) (by omega) (by omega)) ?_
  rintro v h5 ⟨rfl, x5⟩
  rw [P.e, P.n]
  have x15 := x14.trans x5
  simp only [x15.get hb1, decide_true, Bool.not_true, coreS, Value.cells, Value.oneCell', Nat.reduceAdd, Nat.reduceSub, Nat.reduceMul, Nat.reduceLeDiff, Int.reduceEq, Nat.reduceEqDiff, M38Fs8]
  refine CallsH.mono (bits42 n x h5 (by omega) hx) ?_
  rintro v h6 ⟨⟨aB, cB, lB, rfl, OB, upB, ltB⟩, x6⟩
  have x16 := x15.trans x6
  have lBl := up_len upB ltB
  simp only [x16.get hb1, coreS, Value.cells, Value.oneCell', Nat.reduceAdd, Nat.reduceSub, Nat.reduceMul, Nat.reduceLeDiff, Int.reduceEq, Nat.reduceEqDiff, M38Fs8]
  refine CallsH.mono (checkList30 s m a n c ws aB _ cB _ h6 (hr.ext (y1.trans x16)) hn (by omega) OB.ints (by omega)) ?_
  rintro v h7 ⟨rfl, x7⟩
  have x17 := x16.trans x7
  have hb7 := x17.get hb1
  simp only [hb7, coreS, Value.cells, Value.oneCell', Nat.reduceAdd, Nat.reduceSub, Nat.reduceMul, Nat.reduceLeDiff, Int.reduceEq, Nat.reduceEqDiff, M38Fs8]
  refine WP_cut [17, 19, 94, 95, 96, 97, 98, 99, 100, 101, 102, 103, 104, 105, 106] (fun g h' => ∃ e k : Int, g 17 = .int .i64 e ∧ g 19 = .int .i64 k ∧ (e = 0 ∧ ((lsN s m ws).length : Int) ≤ k ∨ e = 14) ∧ Ext h7 h') ?_ ?_
  · refine WP_tree (by kernel_rfl) sta_ext (.quiet 0 (.quiet 1 (.quiet 2 (.quiet 3 (.quiet 5 (.quiet 6 (.quiet 7 (.keep 4 (.keep 8 (.keep 9 (.quiet 10 (.quiet 11 (.quiet 12 (.quiet 13 (.quiet 14 (.fin)))))))))))))))) (by kernel_rfl) rfl (by kernel_rfl) ?_
    simp only [hb7, coreS, Value.cells, Value.oneCell', Nat.reduceAdd, Nat.reduceSub, Nat.reduceMul, Nat.reduceLeDiff, Int.reduceEq, Nat.reduceEqDiff, drawS, treeS, M38Fs8]
    refine execT_keep fun hC xC => ?_
    simp only [coreS, Value.cells, Value.oneCell', Nat.reduceAdd, Nat.reduceSub, Nat.reduceMul, Nat.reduceLeDiff, Int.reduceEq, Nat.reduceEqDiff, drawS, treeS, M38Fs8]
    refine CallsH.mono (bits42 s y hC (by omega) hy) ?_
    rintro v hD ⟨⟨aD, cD, lD, rfl, OD, upD, ltD⟩, xD⟩
    refine ⟨xD, ?_⟩
    try simp only [coreS, Value.cells, Value.oneCell', Nat.reduceAdd, Nat.reduceSub, Nat.reduceMul, Nat.reduceLeDiff, Int.reduceEq, Nat.reduceEqDiff, drawS, treeS, M38Fs8]
    refine execT_keep fun hE xE => ?_
    simp only [coreS, Value.cells, Value.oneCell', Nat.reduceAdd, Nat.reduceSub, Nat.reduceMul, Nat.reduceLeDiff, Int.reduceEq, Nat.reduceEqDiff, drawS, treeS, M38Fs8]
    refine CallsH.mono (bits42 m z hE (by omega) hz) ?_
    rintro v hF ⟨⟨aF, cF, lF, rfl, OF, upF, ltF⟩, xF⟩
    refine ⟨xF, ?_⟩
    have ld := up_len upD ltD
    have lf := up_len upF ltF
    try simp only [coreS, Value.cells, Value.oneCell', Nat.reduceAdd, Nat.reduceSub, Nat.reduceMul, Nat.reduceLeDiff, Int.reduceEq, Nat.reduceEqDiff, drawS, treeS, M38Fs8]
    refine execT_keep fun hG xG => ?_
    have xx := (((xC.trans xD).trans xE).trans xF).trans xG
    simp only [coreS, Value.cells, Value.oneCell', Nat.reduceAdd, Nat.reduceSub, Nat.reduceMul, Nat.reduceLeDiff, Int.reduceEq, Nat.reduceEqDiff, drawS, treeS, M38Fs8]
    refine CallsH.mono (cover27 s m a n c ws aD _ cD (zsN lD) aF _ cF (zsN lF) hG (hr.ext ((y1.trans x17).trans xx)) hn (by omega) (((OD.ints.ext xE).ext xF).ext xG) (OF.ints.ext xG) (by omega) (by omega)) ?_
    rintro v hH ⟨rfl, xH⟩
    refine ⟨xH, ?_⟩
    try simp only [coreS, Value.cells, Value.oneCell', Nat.reduceAdd, Nat.reduceSub, Nat.reduceMul, Nat.reduceLeDiff, Int.reduceEq, Nat.reduceEqDiff, drawS, treeS, M38Fs8]
    refine execT_fin fun hI xI => ?_
    try simp only [thenK_normal]
    exact midK_mk (by kernel_rfl) ⟨_, _, rfl, rfl, covE_up V upD ltD upF ltF, (xx.trans xH).trans xI⟩
  rintro g h8 ⟨e, k, ge, gk, hek, x8⟩
  have y8 := (y1.trans x17).trans x8
  rcases chkL_up V upB (fun t ht => by rw [← hn]; exact ltB t ht) with ⟨l0, l1⟩ | l0 <;> rcases hek with ⟨rfl, k1⟩ | rfl
  · have l2 : ((lB.length : Nat) : Int) ≤ ((lsN s m ws).length : Nat) := by omega
    simp only [l0, l2, k1, ge, gk, decide_true, decide_false, Bool.not_true, coreS, Value.cells, Value.oneCell', Nat.reduceAdd, Nat.reduceSub, Nat.reduceMul, Nat.reduceLeDiff, Int.reduceEq, Nat.reduceEqDiff, M38Fs8]
    refine CallsH.mono (out _ y8) ?_
    rintro v h9 ⟨rfl, x9⟩
    simp only [coreS, Value.cells, Value.oneCell', Nat.reduceAdd, Nat.reduceSub, Nat.reduceMul, Nat.reduceLeDiff, Int.reduceEq, Nat.reduceEqDiff, M38Fs8]
    exact x9
  · have l2 : ((lB.length : Nat) : Int) ≤ ((lsN s m ws).length : Nat) := by omega
    simp only [l0, l2, ge, gk, decide_true, decide_false, Bool.not_true, Bool.not_false, coreS, Value.cells, Value.oneCell', Nat.reduceAdd, Nat.reduceSub, Nat.reduceMul, Nat.reduceLeDiff, Int.reduceEq, Nat.reduceEqDiff, M38Fs8]
    refine CallsH.mono (out _ y8) ?_
    rintro v h9 ⟨rfl, x9⟩
    simp only [coreS, Value.cells, Value.oneCell', Nat.reduceAdd, Nat.reduceSub, Nat.reduceMul, Nat.reduceLeDiff, Int.reduceEq, Nat.reduceEqDiff, M38Fs8]
    exact x9
  · simp only [l0, k1, ge, gk, decide_true, decide_false, Bool.not_true, Bool.not_false, coreS, Value.cells, Value.oneCell', Nat.reduceAdd, Nat.reduceSub, Nat.reduceMul, Nat.reduceLeDiff, Int.reduceEq, Nat.reduceEqDiff, M38Fs8]
    refine CallsH.mono (out _ y8) ?_
    rintro v h9 ⟨rfl, x9⟩
    simp only [coreS, Value.cells, Value.oneCell', Nat.reduceAdd, Nat.reduceSub, Nat.reduceMul, Nat.reduceLeDiff, Int.reduceEq, Nat.reduceEqDiff, M38Fs8]
    exact x9
  · simp only [l0, ge, gk, decide_true, decide_false, Bool.not_true, Bool.not_false, coreS, Value.cells, Value.oneCell', Nat.reduceAdd, Nat.reduceSub, Nat.reduceMul, Nat.reduceLeDiff, Int.reduceEq, Nat.reduceEqDiff, M38Fs8]
    refine CallsH.mono (out _ y8) ?_
    rintro v h9 ⟨rfl, x9⟩
    simp only [coreS, Value.cells, Value.oneCell', Nat.reduceAdd, Nat.reduceSub, Nat.reduceMul, Nat.reduceLeDiff, Int.reduceEq, Nat.reduceEqDiff, M38Fs8]
    exact x9
end Go.Proofs.Ytmgkeeefbfefgaa
