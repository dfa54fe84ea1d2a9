/- Walks of the document: the greatest load, the search of days. -/
import Derived.Test.YtmgkeeefbfefgaaGreatPA12
namespace Go.Proofs.YtmgkeeefbfefgaaGreat
open Go Go.Proofs Go.Eng Go.Run Tab
set_option maxRecDepth 100000
set_option linter.unusedSimpArgs false
set_option linter.unusedVariables false
set_option linter.defProp false
set_option maxHeartbeats 2000000
set_option linter.defProp false
def Z1Fs63 := (And.intro (And.intro (And.intro @agg24 @agg3) (And.intro @by3 @inf24)) (And.intro (And.intro @inf3 @sz24) (And.intro @sz3 (And.intro @Tryz.underlying3 @Tryz.underlying25))))
def Z1Fs64 := (And.intro (And.intro (And.intro @agg22 (And.intro @agg24 @by3)) (And.intro @fo24_2 (And.intro @inf22 @inf24))) (And.intro (And.intro @inf3 (And.intro @sz22 @sz24)) (And.intro (And.intro @sz3 @zero3) (And.intro @Tryz.underlying22 @Tryz.underlying25))))
def Z1Fs82 := (And.intro (And.intro (And.intro @agg24 @agg3) (And.intro @by3 @inf24)) (And.intro (And.intro @inf3 @sz24) (And.intro @sz3 @Tryz.underlying25)))
theorem gd_noneZ {P : Program} {s : Tmp} {w : Bool} {op : Op} {ty : TypeId} {all rest : List Oper} {k : Cont} {dst : Option Tmp} {e : Env} {d : List Deferred} {h : Eng.Heap} : gd P undef s w op ty all rest k dst e d h = execR P all rest k (putE e dst undef) d h := gd_undef
theorem zsN_atZ {l : List Nat} {i : Nat} : (zsN l).getD i 0 = ((l.getD i 0 : Nat) : Int) := by
  simp only [zsN, List.getD_eq_getElem?_getD, List.getElem?_map]
  cases l[i]? <;> rfl
theorem great_same {sh mo : Nat → Nat} {n D E : Nat} (A : MB.Great sh mo n D) (B : MB.Great sh mo n E) : D = E := by
  have key : ∀ {D E : Nat}, MB.Great sh mo n D → MB.Great sh mo n E → D ≤ E := fun {D E} A B => by
    rcases A.is with h | ⟨s, h⟩ | ⟨s, h⟩
    · omega
    · rw [← h]; exact B.sle s
    · rw [← h]; exact B.mle s
  exact Nat.le_antisymm (key A B) (key B A)
/-- As far as loads were seen. -/
structure Gr (f : Nat → Nat) (n S g : Nat) : Prop where
  le : ∀ s, s < S → MB.load f n s ≤ g
theorem Gr.next {f : Nat → Nat} {n S g : Nat} (G : Gr f n S g) : Gr f n (S + 1) (max g (MB.load f n S)) := ⟨fun s hs => by
  by_cases e : s = S
  · subst e; omega
  · have := G.le s (by omega); omega⟩
def IsL (f k : Nat → Nat) (n g : Nat) : Prop := g = 0 ∨ (∃ s, MB.load f n s = g) ∨ ∃ s, MB.load k n s = g
theorem IsL.maxf {f k : Nat → Nat} {n g S : Nat} (H : IsL f k n g) : IsL f k n (max g (MB.load f n S)) := by
  by_cases h : g ≤ MB.load f n S
  · rw [Nat.max_eq_right h]; exact .inr (.inl ⟨S, rfl⟩)
  · rw [Nat.max_eq_left (by omega)]; exact H
theorem IsL.maxk {f k : Nat → Nat} {n g S : Nat} (H : IsL f k n g) : IsL f k n (max g (MB.load k n S)) := by
  by_cases h : g ≤ MB.load k n S
  · rw [Nat.max_eq_right h]; exact .inr (.inr ⟨S, rfl⟩)
  · rw [Nat.max_eq_left (by omega)]; exact H
theorem greatest63 (S M : Nat) (a : Option Addr) (n c : Nat) (ws : List Wn) (h : Eng.Heap) (hr : Row h a (wsV ws)) (hn : n = ws.length) (V : Vb S M ws) :
    CallsH Tryz.prog 63 #[.agg #[.int .i64 S, .int .i64 M, .slice a n c]] h (fun v h' => v = .int .i64 (gld ws : Nat) ∧ Ext h h') := by
  have hV := V.n
  have v2 := V.s2
  have v4 := V.m2
  (refine CallsH_of_exec Tryz.func63 rfl bod63 ?_; simp only [Tryz.ntmps63, Tryz.results63, coreS, stK_some, splice, Value.cells, Value.oneCell', Nat.reduceAdd, Nat.reduceSub, Nat.reduceMul, Nat.reduceLeDiff, Int.reduceEq, Nat.reduceEqDiff, Z1Fs63])
  have x0 : Ext h (h.push (.cells #[.int .i64 S, .int .i64 M, .slice a n c] 24)) := (Ext.refl h).push _
  refine CallsH.mono (loadsOf51 S M a n c ws _ (hr.ext x0) hn V) ?_
  rintro v h1 ⟨⟨p, q, rfl, _, _, _, hp, hq⟩, x1⟩
  have y1 := x0.trans x1
  have i1 : IntsV h1 (some ⟨p, 0, none⟩) S (ldL (shN ws) S n) := by
    have := IntsV.block (xs := ldL (shN ws) S n) hp
    rwa [ldL_length] at this
  have i2 : IntsV h1 (some ⟨q, 0, none⟩) M (ldL (moN ws) M n) := by
    have := IntsV.block (xs := ldL (moN ws) M n) hq
    rwa [ldL_length] at this
  simp only [coreS, Value.cells, Value.oneCell', Nat.reduceAdd, Nat.reduceSub, Nat.reduceMul, Nat.reduceLeDiff, Int.reduceEq, Nat.reduceEqDiff, Z1Fs63]
  refine WP_loopI [5, 6, 13, 14, 15, 16, 17, 18, 19, 20, 21, 22, 23, 24] (fun e h' => h' = h1 ∧ ∃ k : Nat, k ≤ S ∧ e 6 = .int .i64 k ∧ ∃ g : Nat, e 5 = .int .i64 g ∧ Gr (shN ws) n k g ∧ IsL (shN ws) (moN ws) n g) (fun e _ => match e 6 with | .int _ q => S - q.toNat | _ => 0) ⟨rfl, 0, by omega, rfl, 0, rfl, ⟨fun s hs => by omega⟩, .inl rfl⟩ ?_
  rintro e h2 ⟨rfl, k, hk, he, g, he5, G, L⟩
  by_cases hks : k < S
  · have hlt : (k : Int) < (S : Int) := by omega
    have meas : S - ((k : Int) + 1).toNat < S - (k : Int).toNat := by omega
    have c1 := i1.cell (j := k) (by rw [ldL_length]; exact hks)
    rw [ldL_get hks, eltP_some, cellH_eq, Nat.zero_add] at c1
    simp only [he, he5, hlt, c1, decide_true, Int.toNat_natCast, coreS, Value.cells, Value.oneCell', Nat.reduceAdd, Nat.reduceSub, Nat.reduceMul, Nat.reduceLeDiff, Int.reduceEq, Nat.reduceEqDiff, Z1Fs63]
    refine ⟨by omega, rfl, by rw [inK_i64]; omega, roundK_mk (by kernel_rfl) ⟨rfl, k + 1, by omega, rfl, max g (MB.load (shN ws) n k), ?_, G.next, L.maxf⟩ meas⟩
    show Value.int _ _ = _
    congr 1
    omega
  obtain rfl : k = S := by omega
  simp only [he, he5, show ¬ ((k : Int) < (k : Int)) by omega, decide_false, coreS, Value.cells, Value.oneCell', Nat.reduceAdd, Nat.reduceSub, Nat.reduceMul, Nat.reduceLeDiff, Int.reduceEq, Nat.reduceEqDiff, Z1Fs63]
  refine WP_loopI [5, 7, 25, 26, 27, 28, 29, 30, 31, 32, 33, 34, 35, 36] (fun e h' => h' = h2 ∧ ∃ j : Nat, j ≤ M ∧ e 7 = .int .i64 j ∧ ∃ g : Nat, e 5 = .int .i64 g ∧ Gr (shN ws) n k g ∧ Gr (moN ws) n j g ∧ IsL (shN ws) (moN ws) n g) (fun e _ => match e 7 with | .int _ q => M - q.toNat | _ => 0) ⟨rfl, 0, by omega, rfl, g, rfl, G, ⟨fun s hs => by omega⟩, L⟩ ?_
  rintro e3 h3 ⟨rfl, j, hj, he7, g2, he5', G1, G2, L2⟩
  by_cases hjs : j < M
  · have hlt : (j : Int) < (M : Int) := by omega
    have meas : M - ((j : Int) + 1).toNat < M - (j : Int).toNat := by omega
    have c1 := i2.cell (j := j) (by rw [ldL_length]; exact hjs)
    rw [ldL_get hjs, eltP_some, cellH_eq, Nat.zero_add] at c1
    simp only [he7, he5', hlt, c1, decide_true, Int.toNat_natCast, coreS, Value.cells, Value.oneCell', Nat.reduceAdd, Nat.reduceSub, Nat.reduceMul, Nat.reduceLeDiff, Int.reduceEq, Nat.reduceEqDiff, Z1Fs63]
    refine ⟨by omega, rfl, by rw [inK_i64]; omega, roundK_mk (by kernel_rfl) ⟨rfl, j + 1, by omega, rfl, max g2 (MB.load (moN ws) n j), ?_, ⟨fun s hs => by have := G1.le s hs; omega⟩, G2.next, L2.maxk⟩ meas⟩
    show Value.int _ _ = _
    congr 1
    omega
  obtain rfl : j = M := by omega
  simp only [he7, he5', show ¬ ((j : Int) < (j : Int)) by omega, decide_false, coreS, Value.cells, Value.oneCell', Nat.reduceAdd, Nat.reduceSub, Nat.reduceMul, Nat.reduceLeDiff, Int.reduceEq, Nat.reduceEqDiff, Z1Fs63]
  refine ⟨?_, y1⟩
  have e : g2 = gld ws := great_same ⟨fun s => by
    by_cases h0 : 0 < MB.load (shN ws) ws.length s
    · obtain ⟨i, hi, rfl⟩ := MB.pos_load h0
      have := G1.le _ (V.s hi).2
      rw [hn] at this
      exact this
    · omega, fun s => by
    by_cases h0 : 0 < MB.load (moN ws) ws.length s
    · obtain ⟨i, hi, rfl⟩ := MB.pos_load h0
      have := G2.le _ (V.m hi).2
      rw [hn] at this
      exact this
    · omega, by rw [← hn]; exact L2⟩ (gld_great V)
  rw [e]
theorem fits82 (S M : Nat) (a : Option Addr) (n c : Nat) (ws : List Wn) (b : Option Addr) (k : Nat) (bg : List Nat) (d : Nat) (h : Eng.Heap) (hr : Row h a (wsV ws)) (hn : n = ws.length) (V : Vb S M ws) (I : IntsV h b bg.length (zsN bg)) (hb : bg.length < n) :
    CallsH Tryz.prog 82 #[.agg #[.int .i64 S, .int .i64 M, .slice a n c], .slice b bg.length k, .int .i64 d] h (fun v h' => v = .bool (MB.fit (shN ws) (moN ws) bg d) ∧ Ext h h') := by
  have hV := V.n
  (refine CallsH_of_exec Tryz.func82 rfl bod82 ?_; simp only [Tryz.ntmps82, Tryz.results82, coreS, stK_some, splice, Value.cells, Value.oneCell', Nat.reduceAdd, Nat.reduceSub, Nat.reduceMul, Nat.reduceLeDiff, Int.reduceEq, Nat.reduceEqDiff, Z1Fs82])
  have x0 : Ext h (h.push (.cells #[.int .i64 S, .int .i64 M, .slice a n c] 24)) := (Ext.refl h).push _
  have q0 := push_new (h := h) (o := .cells #[.int .i64 S, .int .i64 M, .slice a n c] 24)
  generalize h.push (.cells #[.int .i64 S, .int .i64 M, .slice a n c] 24) = hh at x0 q0 ⊢
  refine WP_loopI [6, 7, 8, 9, 10, 11, 12, 13, 14, 15, 16, 17, 18, 19, 20, 21, 22, 23, 24, 25, 26] (fun e h' => Ext hh h' ∧ ∃ i : Nat, i ≤ bg.length ∧ e 7 = .int .i64 i ∧ ∀ t, t < i → bg.getD t 0 = d → MB.clash (shN ws) (moN ws) t bg.length = false) (fun e _ => match e 7 with | .int _ q => bg.length - q.toNat | _ => 0) ⟨Ext.refl _, 0, by omega, rfl, fun t ht => by omega⟩ ?_
  rintro e h1 ⟨x1, i, hi, he, hno⟩
  have y1 := x0.trans x1
  have q1 := x1.get q0
  have I1 := I.ext y1
  have bad : ∀ {t : Nat}, t < bg.length → bg.getD t 0 = d → MB.clash (shN ws) (moN ws) t bg.length = true → MB.fit (shN ws) (moN ws) bg d = false := fun {t} ht hd hc => by
    cases hf : MB.fit (shN ws) (moN ws) bg d with
    | false => rfl
    | true =>
      have := MB.fit_iff.1 hf t ht hd
      rw [MB.clash_no.2 this] at hc; cases hc
  by_cases hil : i < bg.length
  case neg =>
    obtain rfl : i = bg.length := by omega
    have hf : MB.fit (shN ws) (moN ws) bg d = true := MB.fit_iff.2 fun t ht hd => MB.clash_no.1 (hno t ht hd)
    simp only [he, show ¬ ((bg.length : Int) < (bg.length : Int)) by omega, decide_false, coreS, Value.cells, Value.oneCell', Nat.reduceAdd, Nat.reduceSub, Nat.reduceMul, Nat.reduceLeDiff, Int.reduceEq, Nat.reduceEqDiff, Z1Fs82]
    exact ⟨by rw [hf], y1⟩
  have hlt : (i : Int) < (bg.length : Int) := by omega
  have meas : bg.length - ((i : Int) + 1).toNat < bg.length - (i : Int).toNat := by omega
  have c1 := I1.cell (j := i) (by rw [zsN_length]; exact hil)
  have sb := I1.isSome (by rw [zsN_length]; omega)
  rw [zsN_atZ] at c1
  by_cases hd : ((bg.getD i 0 : Nat) : Int) = (d : Int)
  · simp only [he, q1, hlt, c1, hd, decide_true, Int.toNat_natCast, coreS, Value.cells, Value.oneCell', Nat.reduceAdd, Nat.reduceSub, Nat.reduceMul, Nat.reduceLeDiff, Int.reduceEq, Nat.reduceEqDiff, Z1Fs82]
    refine ⟨by omega, sb, ?_⟩
    refine CallsH.mono (clash79 S M a n c ws i bg.length h1 (hr.ext y1) hn V (by omega) (by omega)) ?_
    rintro v h2 ⟨rfl, x2⟩
    cases hcl : MB.clash (shN ws) (moN ws) i bg.length with
    | true =>
      simp only [coreS, Value.cells, Value.oneCell', Nat.reduceAdd, Nat.reduceSub, Nat.reduceMul, Nat.reduceLeDiff, Int.reduceEq, Nat.reduceEqDiff, Z1Fs82]
      exact ⟨by rw [bad hil (by omega) hcl], y1.trans x2⟩
    | false =>
      simp only [he, coreS, Value.cells, Value.oneCell', Nat.reduceAdd, Nat.reduceSub, Nat.reduceMul, Nat.reduceLeDiff, Int.reduceEq, Nat.reduceEqDiff, Z1Fs82]
      refine ⟨by rw [inK_i64]; omega, roundK_mk (by kernel_rfl) ⟨x1.trans x2, i + 1, by omega, rfl, fun t ht hd' => ?_⟩ meas⟩
      by_cases e : t = i
      · subst e; exact hcl
      · exact hno t (by omega) hd'
  · simp only [he, q1, hlt, c1, hd, decide_true, decide_false, Int.toNat_natCast, gd_noneZ, coreS, Value.cells, Value.oneCell', Nat.reduceAdd, Nat.reduceSub, Nat.reduceMul, Nat.reduceLeDiff, Int.reduceEq, Nat.reduceEqDiff, Z1Fs82]
    refine ⟨by omega, sb, by rw [inK_i64]; omega, roundK_mk (by kernel_rfl) ⟨x1, i + 1, by omega, rfl, fun t ht hd' => ?_⟩ meas⟩
    by_cases e : t = i
    · subst e; exact absurd hd' (by omega)
    · exact hno t (by omega) hd'
theorem own_empty {m : Nat} {H : Eng.Heap} (hm : m ≤ H.size) : OwnI m (H.push (.cells #[] 3)) 3 (some ⟨H.size, 0, none⟩) 0 0 [] := OwnI.of_block (xs := []) (tl := []) hm (by simp [Eng.ints, push_new]) (by simp) (by simp)
theorem App.rb {h h' : Eng.Heap} {a a' : Option Addr} {el : TypeId} {len cap m m0 : Nat} {xs : List Int} (A : App h h' a a') (O : OwnI m h el a len cap xs) (hm : m0 ≤ m) (hh : m0 ≤ h.size) : RB m0 h h' :=
  ⟨A.size, fun b hb => A.old b (by omega) fun p hp => by have := (O.lt hp).2; omega⟩
theorem goOn64 (S M : Nat) (a : Option Addr) (n c D : Nat) (ws : List Wn) (hn : n = ws.length) (V : Vb S M ws) (hD : D ≤ 14) : ∀ (k : Nat) (b : Option Addr) (cb : Nat) (bg : List Nat) (h : Eng.Heap), Row h a (wsV ws) → bg.length + k = n → IntsV h b bg.length (zsN bg) → bg.length ≤ cb →
    CallsH Tryz.prog 64 #[.agg #[.int .i64 S, .int .i64 M, .slice a n c], .slice b bg.length cb, .int .i64 D] h (fun v h' => ((∃ l a' c', MB.go (shN ws) (moN ws) D k bg = some l ∧ v = .tuple #[.slice a' l.length c', .bool true] ∧ IntsV h' a' l.length (zsN l) ∧ l.length ≤ c') ∨ (MB.go (shN ws) (moN ws) D k bg = none ∧ v = .tuple #[.slice none 0 0, .bool false])) ∧ Ext h h')
  | 0, b, cb, bg, h, hr, hk, I, hcb => by
    have hV := V.n
    (refine CallsH_of_exec Tryz.func64 rfl bod64 ?_; simp only [Tryz.ntmps64, Tryz.results64, coreS, stK_some, splice, Value.cells, Value.oneCell', Nat.reduceAdd, Nat.reduceSub, Nat.reduceMul, Nat.reduceLeDiff, Int.reduceEq, Nat.reduceEqDiff, Z1Fs64])
    have x0 : Ext h (h.push (.cells #[.int .i64 S, .int .i64 M, .slice a n c] 24)) := (Ext.refl h).push _
    have e1 : ((bg.length : Nat) : Int) = ((n : Nat) : Int) := by omega
    simp only [e1, decide_true, coreS, Value.cells, Value.oneCell', Nat.reduceAdd, Nat.reduceSub, Nat.reduceMul, Nat.reduceLeDiff, Int.reduceEq, Nat.reduceEqDiff, Z1Fs64]
    exact ⟨.inl ⟨bg, b, cb, rfl, rfl, I.ext x0, hcb⟩, x0⟩
  | k + 1, b, cb, bg, h, hr, hk, I, hcb => by
    have hV := V.n
    (refine CallsH_of_exec Tryz.func64 rfl bod64 ?_; simp only [Tryz.ntmps64, Tryz.results64, coreS, stK_some, splice, Value.cells, Value.oneCell', Nat.reduceAdd, Nat.reduceSub, Nat.reduceMul, Nat.reduceLeDiff, Int.reduceEq, Nat.reduceEqDiff, Z1Fs64])
    have x0 : Ext h (h.push (.cells #[.int .i64 S, .int .i64 M, .slice a n c] 24)) := (Ext.refl h).push _
    have q0 := push_new (h := h) (o := .cells #[.int .i64 S, .int .i64 M, .slice a n c] 24)
    generalize h.push (.cells #[.int .i64 S, .int .i64 M, .slice a n c] 24) = hh at x0 q0 ⊢
    have e1 : ¬ ((bg.length : Nat) : Int) = ((n : Nat) : Int) := by omega
    simp only [e1, q0, decide_false, coreS, Value.cells, Value.oneCell', Nat.reduceAdd, Nat.reduceSub, Nat.reduceMul, Nat.reduceLeDiff, Int.reduceEq, Nat.reduceEqDiff, Z1Fs64]
    refine WP_loopI [6, 7, 8, 9, 10, 18, 19, 20, 21, 22, 23, 24, 25, 26, 27, 28, 29, 30, 31, 32, 33, 34, 35, 36, 37, 38, 39, 40, 41] (fun e h' => Ext hh h' ∧ ∃ d : Nat, d ≤ D ∧ e 8 = .int .i64 d ∧ ∀ x, x < d → gs (shN ws) (moN ws) D k bg x = none) (fun e _ => match e 8 with | .int _ q => D - q.toNat | _ => 0) ⟨Ext.refl _, 0, by omega, rfl, fun x hx => by omega⟩ ?_
    rintro e h1 ⟨x1, d, hd, he, hno⟩
    have y1 := x0.trans x1
    have q1 := x1.get q0
    have I1 := I.ext y1
    by_cases hdD : d < D
    case neg =>
      obtain rfl : d = D := by omega
      simp only [he, show ¬ ((d : Int) < (d : Int)) by omega, decide_false, coreS, Value.cells, Value.oneCell', Nat.reduceAdd, Nat.reduceSub, Nat.reduceMul, Nat.reduceLeDiff, Int.reduceEq, Nat.reduceEqDiff, Z1Fs64]
      exact ⟨.inr (go_none hno), y1⟩
    have hlt : (d : Int) < (D : Int) := by omega
    have meas : D - ((d : Int) + 1).toNat < D - (d : Int).toNat := by omega
    simp only [he, q1, hlt, decide_true, coreS, Value.cells, Value.oneCell', Nat.reduceAdd, Nat.reduceSub, Nat.reduceMul, Nat.reduceLeDiff, Int.reduceEq, Nat.reduceEqDiff, Z1Fs64]
    refine CallsH.mono (fits82 S M a n c ws b cb bg d h1 (hr.ext y1) hn V I1 (by omega)) ?_
    rintro v h2 ⟨rfl, x2⟩
    have y2 := y1.trans x2
    have q2 := x2.get q1
    have I2 := I1.ext x2
    cases hf : MB.fit (shN ws) (moN ws) bg d with
    | false =>
      simp only [he, Bool.not_false, coreS, Value.cells, Value.oneCell', Nat.reduceAdd, Nat.reduceSub, Nat.reduceMul, Nat.reduceLeDiff, Int.reduceEq, Nat.reduceEqDiff, Z1Fs64]
      refine ⟨by rw [inK_i64]; omega, roundK_mk (by kernel_rfl) ⟨x1.trans x2, d + 1, by omega, rfl, fun x hx => ?_⟩ meas⟩
      by_cases e : x = d
      · subst e; unfold gs; rw [hf]; rfl
      · exact hno x (by omega)
    | true =>
    simp only [he, Bool.not_true, coreS, Value.cells, Value.oneCell', Nat.reduceAdd, Nat.reduceSub, Nat.reduceMul, Nat.reduceLeDiff, Int.reduceEq, Nat.reduceEqDiff, Z1Fs64]
    refine WP_cut [9, 10, 28, 29, 30, 31, 32, 33, 34, 35, 36, 37, 38, 39] (fun g h' => Ext h2 h' ∧ ((∃ l a' c', MB.go (shN ws) (moN ws) D k (bg ++ [d]) = some l ∧ g 9 = .slice a' l.length c' ∧ g 10 = .bool true ∧ IntsV h' a' l.length (zsN l) ∧ l.length ≤ c') ∨ (MB.go (shN ws) (moN ws) D k (bg ++ [d]) = none ∧ g 10 = .bool false))) ?_ ?_
    · refine WP_treeB (by kernel_rfl) (h2.size) (.load 0 (.pure 2 (.pure 4 (.pure 7 (.fork 1 5 (.fork 3 5 (.keep 5 (.keep 6 (.keep 8 (.pure 9 (.pure 10 (.pure 11 (.pure 12 (.pure 13 (.fin))))))))) (.keep 3 (.keep 6 (.keep 8 (.pure 9 (.pure 10 (.pure 11 (.pure 12 (.pure 13 (.fin)))))))))) (.keep 1 (.keep 3 (.keep 6 (.keep 8 (.pure 9 (.pure 10 (.pure 11 (.pure 12 (.pure 13 (.fin))))))))))))))) (by kernel_rfl) rfl (by kernel_rfl) ?_
      simp only [q2, he, coreS, Value.cells, Value.oneCell', Nat.reduceAdd, Nat.reduceSub, Nat.reduceMul, Nat.reduceLeDiff, Int.reduceEq, Nat.reduceEqDiff, drawS, treeS, treeB, Z1Fs64]
      refine ⟨by have := lt_of_get q2; omega, ?_⟩
      refine execB_fork ?_ ?_
      · simp only [splice, List.drop, List.take, coreS, Value.cells, Value.oneCell', Nat.reduceAdd, Nat.reduceSub, Nat.reduceMul, Nat.reduceLeDiff, Int.reduceEq, Nat.reduceEqDiff, drawS, treeS, treeB, Z1Fs64]
        have g1 : h2.size ≤ (h2).size := (RB.refl h2.size h2).1
        refine ⟨RB.of_ext ((Ext.refl _).push _) g1, ?_⟩
        have XE := (RB.refl h2.size h2).trans (RB.of_ext ((Ext.refl (h2)).push (.cells #[] 3)) g1)
        have E1 := own_empty (m := h2.size) (H := h2) g1
        refine execB_fork ?_ ?_
        · simp only [splice, List.drop, List.take, coreS, Value.cells, Value.oneCell', Nat.reduceAdd, Nat.reduceSub, Nat.reduceMul, Nat.reduceLeDiff, Int.reduceEq, Nat.reduceEqDiff, drawS, treeS, treeB, Z1Fs64]
          have g3 : h2.size ≤ (Array.push (h2) (.cells #[] 3)).size := (XE).1
          refine app25 (m0 := h2.size) (len := 0) (xs := []) (ys := zsN bg) rfl rfl E1 g3 (I2.ext (XE).ext) (by omega) fun a3 c3 h3 O3 A3 => ⟨App.rb A3 E1 (Nat.le_refl _) g3, ?_⟩
          have X3 := (XE).trans (App.rb A3 E1 (Nat.le_refl _) g3)
          rw [Nat.zero_add, List.nil_append] at O3
          rw [Nat.zero_add]
          refine execB_keep ?_
          simp only [splice, List.drop, List.take, coreS, Value.cells, Value.oneCell', Nat.reduceAdd, Nat.reduceSub, Nat.reduceMul, Nat.reduceLeDiff, Int.reduceEq, Nat.reduceEqDiff, drawS, treeS, treeB, Z1Fs64]
          have g5 : h2.size ≤ (h3).size := (X3).1
          refine ⟨RB.of_ext ((Ext.refl _).push _) g5, ?_⟩
          have XW := (X3).trans (RB.of_ext ((Ext.refl (h3)).push (.cells #[.int .i64 (d : Int)] 3)) g5)
          have W0 := push_new (h := h3) (o := .cells #[.int .i64 (d : Int)] 3)
          have O5 := O3.ext ((Ext.refl (h3)).push (.cells #[.int .i64 (d : Int)] 3))
          refine execB_keep ?_
          simp only [splice, List.drop, List.take, coreS, Value.cells, Value.oneCell', Nat.reduceAdd, Nat.reduceSub, Nat.reduceMul, Nat.reduceLeDiff, Int.reduceEq, Nat.reduceEqDiff, drawS, treeS, treeB, Z1Fs64]
          have g6 : h2.size ≤ (Array.push (h3) (.cells #[.int .i64 (d : Int)] 3)).size := (XW).1
          refine app25 (m0 := h2.size) (len := bg.length) (m := 1) (ys := [(d : Int)]) rfl rfl O5 g6 (intsV_one W0) (by omega) fun a6 c6 h6 O6 A6 => ⟨App.rb A6 O5 (Nat.le_refl _) g6, ?_⟩
          have X6 := (XW).trans (App.rb A6 O5 (Nat.le_refl _) g6)
          have ezn : zsN bg ++ [(d : Int)] = zsN (bg ++ [d]) := by simp [zsN]
          have ell : bg.length + 1 = (bg ++ [d]).length := by simp
          rw [ezn, ell] at O6
          rw [ell]
          refine execB_keep ?_
          simp only [splice, List.drop, List.take, coreS, Value.cells, Value.oneCell', Nat.reduceAdd, Nat.reduceSub, Nat.reduceMul, Nat.reduceLeDiff, Int.reduceEq, Nat.reduceEqDiff, drawS, treeS, treeB, Z1Fs64]
          refine CallsH.mono (goOn64 S M a n c D ws hn V hD k a6 c6 (bg ++ [d]) h6 (hr.ext (y2.trans X6.ext)) (by simp; omega) O6.ints O6.cap) ?_
          rintro v h7 ⟨⟨l, a7, c7, hgo, rfl, I7, hc7⟩ | ⟨hgo, rfl⟩, x7⟩
          · refine ⟨RB.of_ext x7 X6.1, ?_⟩
            have X7 := X6.trans (RB.of_ext x7 X6.1)
            simp only [execB_fin, coreS, Value.cells, Value.oneCell', Nat.reduceAdd, Nat.reduceSub, Nat.reduceMul, Nat.reduceLeDiff, Int.reduceEq, Nat.reduceEqDiff, drawS, treeS, treeB, Z1Fs64, thenK_normal]
            exact midK_mk (by kernel_rfl) ⟨X7.ext, .inl ⟨l, a7, c7, hgo, rfl, rfl, I7, hc7⟩⟩
          · refine ⟨RB.of_ext x7 X6.1, ?_⟩
            have X7 := X6.trans (RB.of_ext x7 X6.1)
            simp only [execB_fin, coreS, Value.cells, Value.oneCell', Nat.reduceAdd, Nat.reduceSub, Nat.reduceMul, Nat.reduceLeDiff, Int.reduceEq, Nat.reduceEqDiff, drawS, treeS, treeB, Z1Fs64, thenK_normal]
            exact midK_mk (by kernel_rfl) ⟨X7.ext, .inr ⟨hgo, rfl⟩⟩
        · simp only [splice, List.drop, List.take, coreS, Value.cells, Value.oneCell', Nat.reduceAdd, Nat.reduceSub, Nat.reduceMul, Nat.reduceLeDiff, Int.reduceEq, Nat.reduceEqDiff, drawS, treeS, treeB, Z1Fs64]
          have g5 : h2.size ≤ (Array.push (h2) (.cells #[] 3)).size := (XE).1
          refine ⟨RB.of_ext ((Ext.refl _).push _) g5, ?_⟩
          have XW := (XE).trans (RB.of_ext ((Ext.refl (Array.push (h2) (.cells #[] 3))).push (.cells #[.int .i64 (d : Int)] 3)) g5)
          have W0 := push_new (h := Array.push (h2) (.cells #[] 3)) (o := .cells #[.int .i64 (d : Int)] 3)
          simp only [push_size] at W0
          have E5 := E1.ext ((Ext.refl (Array.push (h2) (.cells #[] 3))).push (.cells #[.int .i64 (d : Int)] 3))
          refine execB_keep ?_
          simp only [splice, List.drop, List.take, coreS, Value.cells, Value.oneCell', Nat.reduceAdd, Nat.reduceSub, Nat.reduceMul, Nat.reduceLeDiff, Int.reduceEq, Nat.reduceEqDiff, drawS, treeS, treeB, Z1Fs64]
          have g3 : h2.size ≤ (Array.push (Array.push (h2) (.cells #[] 3)) (.cells #[.int .i64 (d : Int)] 3)).size := (XW).1
          refine app25 (m0 := h2.size) (len := 0) (xs := []) (ys := zsN bg) rfl rfl E5 g3 (I2.ext (XW).ext) (by omega) fun a3 c3 h3 O3 A3 => ⟨App.rb A3 E5 (Nat.le_refl _) g3, ?_⟩
          have X3 := (XW).trans (App.rb A3 E5 (Nat.le_refl _) g3)
          rw [Nat.zero_add, List.nil_append] at O3
          rw [Nat.zero_add]
          have W3 := (A3.old _ (lt_of_get W0) (fun p hp => by cases hp; exact (by have := lt_of_get W0; simp only [push_size] at *; omega))).trans W0
          refine execB_keep ?_
          simp only [splice, List.drop, List.take, coreS, Value.cells, Value.oneCell', Nat.reduceAdd, Nat.reduceSub, Nat.reduceMul, Nat.reduceLeDiff, Int.reduceEq, Nat.reduceEqDiff, drawS, treeS, treeB, Z1Fs64]
          have g6 : h2.size ≤ (h3).size := (X3).1
          refine app25 (m0 := h2.size) (len := bg.length) (m := 1) (ys := [(d : Int)]) rfl rfl O3 g6 (intsV_one W3) (by omega) fun a6 c6 h6 O6 A6 => ⟨App.rb A6 O3 (Nat.le_refl _) g6, ?_⟩
          have X6 := (X3).trans (App.rb A6 O3 (Nat.le_refl _) g6)
          have ezn : zsN bg ++ [(d : Int)] = zsN (bg ++ [d]) := by simp [zsN]
          have ell : bg.length + 1 = (bg ++ [d]).length := by simp
          rw [ezn, ell] at O6
          rw [ell]
          refine execB_keep ?_
          simp only [splice, List.drop, List.take, coreS, Value.cells, Value.oneCell', Nat.reduceAdd, Nat.reduceSub, Nat.reduceMul, Nat.reduceLeDiff, Int.reduceEq, Nat.reduceEqDiff, drawS, treeS, treeB, Z1Fs64]
          refine CallsH.mono (goOn64 S M a n c D ws hn V hD k a6 c6 (bg ++ [d]) h6 (hr.ext (y2.trans X6.ext)) (by simp; omega) O6.ints O6.cap) ?_
          rintro v h7 ⟨⟨l, a7, c7, hgo, rfl, I7, hc7⟩ | ⟨hgo, rfl⟩, x7⟩
          · refine ⟨RB.of_ext x7 X6.1, ?_⟩
            have X7 := X6.trans (RB.of_ext x7 X6.1)
            simp only [execB_fin, coreS, Value.cells, Value.oneCell', Nat.reduceAdd, Nat.reduceSub, Nat.reduceMul, Nat.reduceLeDiff, Int.reduceEq, Nat.reduceEqDiff, drawS, treeS, treeB, Z1Fs64, thenK_normal]
            exact midK_mk (by kernel_rfl) ⟨X7.ext, .inl ⟨l, a7, c7, hgo, rfl, rfl, I7, hc7⟩⟩
          · refine ⟨RB.of_ext x7 X6.1, ?_⟩
            have X7 := X6.trans (RB.of_ext x7 X6.1)
            simp only [execB_fin, coreS, Value.cells, Value.oneCell', Nat.reduceAdd, Nat.reduceSub, Nat.reduceMul, Nat.reduceLeDiff, Int.reduceEq, Nat.reduceEqDiff, drawS, treeS, treeB, Z1Fs64, thenK_normal]
            exact midK_mk (by kernel_rfl) ⟨X7.ext, .inr ⟨hgo, rfl⟩⟩
      · simp only [splice, List.drop, List.take, coreS, Value.cells, Value.oneCell', Nat.reduceAdd, Nat.reduceSub, Nat.reduceMul, Nat.reduceLeDiff, Int.reduceEq, Nat.reduceEqDiff, drawS, treeS, treeB, Z1Fs64]
        have g5 : h2.size ≤ (h2).size := (RB.refl h2.size h2).1
        refine ⟨RB.of_ext ((Ext.refl _).push _) g5, ?_⟩
        have XW := (RB.refl h2.size h2).trans (RB.of_ext ((Ext.refl (h2)).push (.cells #[.int .i64 (d : Int)] 3)) g5)
        have W0 := push_new (h := h2) (o := .cells #[.int .i64 (d : Int)] 3)
        refine execB_keep ?_
        simp only [splice, List.drop, List.take, coreS, Value.cells, Value.oneCell', Nat.reduceAdd, Nat.reduceSub, Nat.reduceMul, Nat.reduceLeDiff, Int.reduceEq, Nat.reduceEqDiff, drawS, treeS, treeB, Z1Fs64]
        have g1 : h2.size ≤ (Array.push (h2) (.cells #[.int .i64 (d : Int)] 3)).size := (XW).1
        refine ⟨RB.of_ext ((Ext.refl _).push _) g1, ?_⟩
        have XE := (XW).trans (RB.of_ext ((Ext.refl (Array.push (h2) (.cells #[.int .i64 (d : Int)] 3))).push (.cells #[] 3)) g1)
        have E1 := own_empty (m := h2.size) (H := Array.push (h2) (.cells #[.int .i64 (d : Int)] 3)) g1
        simp only [push_size] at E1
        have W1 := push_old (o := .cells #[] 3) W0
        refine execB_keep ?_
        simp only [splice, List.drop, List.take, coreS, Value.cells, Value.oneCell', Nat.reduceAdd, Nat.reduceSub, Nat.reduceMul, Nat.reduceLeDiff, Int.reduceEq, Nat.reduceEqDiff, drawS, treeS, treeB, Z1Fs64]
        have g3 : h2.size ≤ (Array.push (Array.push (h2) (.cells #[.int .i64 (d : Int)] 3)) (.cells #[] 3)).size := (XE).1
        refine app25 (m0 := h2.size) (len := 0) (xs := []) (ys := zsN bg) rfl rfl E1 g3 (I2.ext (XE).ext) (by omega) fun a3 c3 h3 O3 A3 => ⟨App.rb A3 E1 (Nat.le_refl _) g3, ?_⟩
        have X3 := (XE).trans (App.rb A3 E1 (Nat.le_refl _) g3)
        rw [Nat.zero_add, List.nil_append] at O3
        rw [Nat.zero_add]
        have W3 := (A3.old _ (lt_of_get W1) (fun p hp => by cases hp; exact (by simp only [push_size]; omega))).trans W1
        refine execB_keep ?_
        simp only [splice, List.drop, List.take, coreS, Value.cells, Value.oneCell', Nat.reduceAdd, Nat.reduceSub, Nat.reduceMul, Nat.reduceLeDiff, Int.reduceEq, Nat.reduceEqDiff, drawS, treeS, treeB, Z1Fs64]
        have g6 : h2.size ≤ (h3).size := (X3).1
        refine app25 (m0 := h2.size) (len := bg.length) (m := 1) (ys := [(d : Int)]) rfl rfl O3 g6 (intsV_one W3) (by omega) fun a6 c6 h6 O6 A6 => ⟨App.rb A6 O3 (Nat.le_refl _) g6, ?_⟩
        have X6 := (X3).trans (App.rb A6 O3 (Nat.le_refl _) g6)
        have ezn : zsN bg ++ [(d : Int)] = zsN (bg ++ [d]) := by simp [zsN]
        have ell : bg.length + 1 = (bg ++ [d]).length := by simp
        rw [ezn, ell] at O6
        rw [ell]
        refine execB_keep ?_
        simp only [splice, List.drop, List.take, coreS, Value.cells, Value.oneCell', Nat.reduceAdd, Nat.reduceSub, Nat.reduceMul, Nat.reduceLeDiff, Int.reduceEq, Nat.reduceEqDiff, drawS, treeS, treeB, Z1Fs64]
        refine CallsH.mono (goOn64 S M a n c D ws hn V hD k a6 c6 (bg ++ [d]) h6 (hr.ext (y2.trans X6.ext)) (by simp; omega) O6.ints O6.cap) ?_
        rintro v h7 ⟨⟨l, a7, c7, hgo, rfl, I7, hc7⟩ | ⟨hgo, rfl⟩, x7⟩
        · refine ⟨RB.of_ext x7 X6.1, ?_⟩
          have X7 := X6.trans (RB.of_ext x7 X6.1)
          simp only [execB_fin, coreS, Value.cells, Value.oneCell', Nat.reduceAdd, Nat.reduceSub, Nat.reduceMul, Nat.reduceLeDiff, Int.reduceEq, Nat.reduceEqDiff, drawS, treeS, treeB, Z1Fs64, thenK_normal]
          exact midK_mk (by kernel_rfl) ⟨X7.ext, .inl ⟨l, a7, c7, hgo, rfl, rfl, I7, hc7⟩⟩
        · refine ⟨RB.of_ext x7 X6.1, ?_⟩
          have X7 := X6.trans (RB.of_ext x7 X6.1)
          simp only [execB_fin, coreS, Value.cells, Value.oneCell', Nat.reduceAdd, Nat.reduceSub, Nat.reduceMul, Nat.reduceLeDiff, Int.reduceEq, Nat.reduceEqDiff, drawS, treeS, treeB, Z1Fs64, thenK_normal]
          exact midK_mk (by kernel_rfl) ⟨X7.ext, .inr ⟨hgo, rfl⟩⟩
    rintro g h3 ⟨x3, hg⟩
    have y3 := y2.trans x3
    rcases hg with ⟨l, a3, c3, hgo, hg9, hg10, I3, hc3⟩ | ⟨hgo, hg10⟩
    · simp only [hg9, hg10, coreS, Value.cells, Value.oneCell', Nat.reduceAdd, Nat.reduceSub, Nat.reduceMul, Nat.reduceLeDiff, Int.reduceEq, Nat.reduceEqDiff, Z1Fs64]
      exact ⟨.inl ⟨l, a3, c3, go_found hdD hno (by unfold gs; rw [hf, if_pos rfl]; exact hgo), rfl, I3, hc3⟩, y3⟩
    · simp only [he, hg10, coreS, Value.cells, Value.oneCell', Nat.reduceAdd, Nat.reduceSub, Nat.reduceMul, Nat.reduceLeDiff, Int.reduceEq, Nat.reduceEqDiff, Z1Fs64]
      refine ⟨by rw [inK_i64]; omega, roundK_mk (by kernel_rfl) ⟨(x1.trans x2).trans x3, d + 1, by omega, rfl, fun x hx => ?_⟩ meas⟩
      by_cases e : x = d
      · subst e; unfold gs; rw [hf, if_pos rfl]; exact hgo
      · exact hno x (by omega)
end Go.Proofs.YtmgkeeefbfefgaaGreat
