/- Walks: spots, hang. -/
import Derived.Test.YtmgkeeefbfefgaaM3
import Derived.Test.YtmgkeeefbfefgaaEngK
import Derived.Test.YtmgkeeefbfefgaaOk
namespace Go.Proofs.Ytmgkeeefbfefgaa
open Go Go.Proofs Go.Eng Go.Run Tab
set_option maxRecDepth 100000
set_option linter.unusedSimpArgs false
set_option linter.unusedVariables false
set_option linter.defProp false
set_option maxHeartbeats 1000000
set_option linter.defProp false
def M4Fs53 := (And.intro (And.intro (And.intro @agg101 @agg97) (And.intro @fo99_1 @inf101)) (And.intro (And.intro @inf97 @sz101) (And.intro @sz97 (And.intro @zero101 @Try.underlying102))))
def M4Fs85 := (And.intro (And.intro (And.intro (And.intro @agg102 @agg22) (And.intro @agg3 (And.intro @by58 @fo24_2))) (And.intro (And.intro @fo58_0 (And.intro @fo58_1 @fo99_0)) (And.intro @fps101_0 (And.intro @fps101_1 @fps101_2)))) (And.intro (And.intro (And.intro @inf102 (And.intro @inf22 @inf3)) (And.intro @inf58 (And.intro @okf101 @sz102))) (And.intro (And.intro @sz22 (And.intro @sz3 @sz58)) (And.intro @zero101 (And.intro @zero102 @Try.underlying22)))))
/-- An array that is built of its parts. -/
theorem build_arrT {P : Program} {t el : TypeId} {n s : Nat} {z : Value} (hu : P.underlying t = some (.array n el)) (hi : (P.info? el).isSome = true) (hs : szT P el = s) (hz : zeroT P t = some z) {xs : Array (Nat × Operand)} {ty : TypeId} {er : Eng.Env} {h : Eng.Heap} {r : List Value} {K : Value → Eng.Heap → Prop} (hf : fillL (fun i => some (i * s, s)) z.cells.toList (xs.map fun (i, x) => (i, ev er x)).toList = some r) (H : K (.agg r.toArray) h) : opSem P (.build t xs) ty er h K := by
  obtain ⟨inf, hinf⟩ := Option.isSome_iff_exists.1 hi
  have hsz : inf.size = s := by simpa [szT, hinf] using hs
  have q3 := fillL_eq _ _ _ hf
  refine opSem_pure rfl _ H fun w _ => ?_
  have hz' : (zeroValue t).run P w = .ok z w := by
    unfold zeroT at hz
    cases hi : P.info? t with
    | none => simp [hi] at hz
    | some i => simp only [hi, Option.bind_some] at hz; simp [zeroValue, typeInfo, hi, hz]
  simp only [execOp, Instr.build, Sem.run_bind, hz', Result.andThen_ok, run_underlying hu]
  simp only [Array.toList_map] at q3
  simp [sizeOf, typeInfo, hinf, hsz, q3]
theorem opQS_build {P : Program} {t el : TypeId} {n s : Nat} {z : Value} (hu : P.underlying t = some (.array n el)) (hi : (P.info? el).isSome = true) (hs : szT P el = s) (hz : zeroT P t = some z) {xs : Array (Nat × Operand)} {ty : TypeId} {er : Eng.Env} {h : Eng.Heap} {r : List Value} {K : Value → Eng.Heap → Prop} (hf : fillL (fun i => some (i * s, s)) z.cells.toList (xs.map fun (i, x) => (i, ev er x)).toList = some r) (H : K (.agg r.toArray) h) : opQS P EqH (.build t xs) ty er h K := by
  unfold opQS
  exact ⟨_, fun h' e => by have e : h' = h := e; subst e; exact build_arrT hu hi hs hz hf ⟨rfl, rfl⟩, H⟩
theorem okf102 : okFields Try.prog 102 = false := by kernel_rfl
theorem spots85 (g b S M : Nat) (a : Option Addr) (n c : Nat) (ws : List Wn) (i : Nat) (d : Int) (h : Eng.Heap) (hg : DeskB h g b S M a n c) (hr : Row h a (wsV ws)) (hn : n = ws.length) (hi : i < ws.length) :
    CallsH Try.prog 85 #[.pointer (some ⟨g, 0, none⟩), .int .i64 i, .int .i64 d] h (fun v h' => v = .agg #[.int .i64 0, .int .i64 (wAt ws i).s, .int .i64 d, .int .i64 1, .int .i64 (wAt ws i).m, .int .i64 d] ∧ Ext h h') := by
  unfold DeskB at hg
  (refine CallsH_of_exec Try.func85 rfl bod85 ?_; simp only [Try.ntmps85, Try.results85, coreS, stK_some, splice, Value.cells, Value.oneCell', Nat.reduceAdd, Nat.reduceSub, Nat.reduceMul, Nat.reduceLeDiff, Int.reduceEq, Nat.reduceEqDiff, M4Fs85])
  have hne : ¬ (g = h.size) := by have := lt_of_get hg; omega
  have hr0 := hr.push (.cells #[.int .i64 0, .int .i64 0, .int .i64 0, .int .i64 0, .int .i64 0, .int .i64 0] 102)
  have fa := faR hr hi
  have c0 := cellW0 hr0 hi
  have c1 := cellW1 hr0 hi
  have hsm := rowW_some hr hi
  refine WP_draw (by kernel_rfl) sta_eq [(0, 0), (1, 0), (2, 0), (3, 0), (4, 0), (5, 0), (6, 0), (7, 0), (8, 0), (9, 0), (10, 0), (11, 0), (12, 0), (13, 0), (14, 0), (15, 0), (16, 0), (17, 0), (18, 0), (19, 0), (20, 0), (21, 0), (22, 0), (23, 1)] (by kernel_rfl) rfl (by kernel_rfl) ?_
  simp only [hne, hg, if_false, fa, c0, c1, hvK_eq, coreS, stK_some, splice, Value.cells, Value.oneCell', Nat.reduceAdd, Nat.reduceSub, Nat.reduceMul, Nat.reduceLeDiff, Int.reduceEq, Nat.reduceEqDiff, drawS, M4Fs85]
  refine ⟨⟨by omega, by omega⟩, hsm, ⟨by omega, by omega⟩, hsm, ?_⟩
  simp only [okf102, bldO_no]
  refine opQS_build Try.underlying102 inf101 sz101 zero102 (r := [.int .i64 0, .int .i64 (wAt ws i).s, .int .i64 d, .int .i64 1, .int .i64 (wAt ws i).m, .int .i64 d]) (by simp [fillL, coreS, stK_some, splice, Value.cells, Value.oneCell', Nat.reduceAdd, Nat.reduceSub, Nat.reduceMul, Nat.reduceLeDiff, Int.reduceEq, Nat.reduceEqDiff, drawS, M4Fs85]) ?_
  simp only [hvK_eq, coreS, stK_some, splice, Value.cells, Value.oneCell', Nat.reduceAdd, Nat.reduceSub, Nat.reduceMul, Nat.reduceLeDiff, Int.reduceEq, Nat.reduceEqDiff, drawS, M4Fs85]
  exact ((Ext.refl h).push _)
/-! places of shops and moulds on days -/
abbrev Sk := Nat × Nat × Nat
def kvS (k : Sk) : Value := .agg #[.int .i64 (k.1 : Nat), .int .i64 (k.2.1 : Nat), .int .i64 (k.2.2 : Nat)]
theorem keysS : Keys Try.prog 101 kvS := by
  refine Keys.flat (ki := (Pt.pr.ty 101).getD ⟨0, 0, .any, .other, []⟩) (kf := fun p => .agg [.int .i64 (p.1 : Nat), .int .i64 (p.2.1 : Nat), .int .i64 (p.2.2 : Nat)]) (by rw [Try.underlying101]) (Pt.ok.tf (by kernel_rfl)) (fun p => ?_) (fun p q => ?_)
  · simp only [VR]
    exact ⟨_, rfl, by simpa [Eng.ints] using vl_ints (ι := fun _ => none) [(p.1 : Int), (p.2.1 : Int), (p.2.2 : Int)]⟩
  · have hb := beqF_ints [(p.1 : Int), (p.2.1 : Int), (p.2.2 : Int)] [(q.1 : Int), (q.2.1 : Int), (q.2.2 : Int)] rfl
    have hd : decide ([(p.1 : Int), (p.2.1 : Int), (p.2.2 : Int)] = [(q.1 : Int), (q.2.1 : Int), (q.2.2 : Int)]) = decide (p = q) := by
      rw [decide_eq_decide]
      obtain ⟨a, b, c⟩ := p
      obtain ⟨d, e, f⟩ := q
      simp
      omega
    rw [hd] at hb
    exact hb
theorem idsW_arr {cs : Array Value} {q : IntKind} {n : Int} {m : Nat} {el : TypeId} {h : Eng.Heap} {K : Value → Eng.Heap → Prop} {F : Prop} : idsW (.agg cs) (.int q n) (some (.array m el)) h K F = F := by unfold idsW; rfl
/-- A value's part, by its number. -/
theorem index_arrT {P : Program} {t el : TypeId} {len s : Nat} (hu : P.underlying t = some (.array len el)) (ha : aggT P el = some true) (hi : (P.info? el).isSome = true) (hs : szT P el = s) {x i : Operand} {cs : List Value} {j : Nat} {ty : TypeId} {er : Eng.Env} {h : Eng.Heap} {K : Value → Eng.Heap → Prop} (hx : ev er x = .agg cs.toArray) (hj : ev er i = .int .i64 j) (hl : j < len) (H : K (.agg ((cs.drop (j * s)).take s).toArray) h) : opSem P (.index t x i) ty er h K := by
  obtain ⟨inf, hinf⟩ := Option.isSome_iff_exists.1 hi
  have hsz : inf.size = s := by simpa [szT, hinf] using hs
  obtain ⟨v, h1, h2⟩ := part_sound (P := P) (t := el) (cs := cs.toArray) (off := j * inf.size) (h := h) (K := fun v _ => v = .agg ((cs.drop (j * s)).take s).toArray) (by
    simp only [partW, ha, hi, hsz, hs, List.toList_toArray, true_and])
  subst h1
  refine opSem_pure rfl _ H fun w _ => ?_
  have hr : (0 : Int) ≤ (j : Int) ∧ (j : Int) < len := ⟨by omega, by omega⟩
  simp [execOp, Instr.index, hx, hj, asIntOf, run_underlying hu, hr, sizeOf, typeInfo, hinf, h2]
  intro hh; omega
theorem opQS_get {P : Program} {u kt vt : TypeId} {α : Type} [DecidableEq α] {kv : α → Value} {z : Value} (hu : P.underlying u = some (.map kt vt)) (hz : zeroT P vt = some z) (K : Keys P kt kv) {h : Eng.Heap} {er : Eng.Env} {ty : TypeId} {b c : Nat} {es : List (α × Value × Nat)} (M : MapV kv h b es c) {a : α} {ok : Bool} {x k : Operand} {Q : Value → Eng.Heap → Prop} (hx : ev er x = .map (some b)) (hk : ev er k = kv a)
    (H : Q (if ok then .tuple #[(getA a es).getD z, .bool (getA a es).isSome] else (getA a es).getD z) h) : opQS P EqH (.lookup u x k ok) ty er h Q := by
  unfold opQS
  refine ⟨_, fun h' e => ?_, H⟩
  have e : h' = h := e
  subst e
  exact map_getT hu hz K M hx hk ⟨rfl, rfl⟩
/-- What is held: wants on days. -/
def held (sh mo : Nat → Nat) (L : List (Nat × Nat)) (k : Sk) : Bool := L.any fun x => k == (0, sh x.1, x.2) || k == (1, mo x.1, x.2)
structure Hold (sh mo : Nat → Nat) (es : List (Sk × Value × Nat)) (L : List (Nat × Nat)) : Prop where
  nd : (es.map (·.1)).Nodup
  get : ∀ k, (getA k es).isSome = held sh mo L k
def fits (sh mo : Nat → Nat) (L : List (Nat × Nat)) (i d : Nat) : Bool := !held sh mo L (0, sh i, d) && !held sh mo L (1, mo i, d)
theorem Hold.nil {sh mo : Nat → Nat} : Hold sh mo [] [] := ⟨List.nodup_nil, fun k => rfl⟩
theorem getA_none {k : Sk} {es : List (Sk × Value × Nat)} (h : (getA k es).isSome = false) : getA k es = none := by simpa using h
theorem Hold.add {sh mo : Nat → Nat} {es : List (Sk × Value × Nat)} {L : List (Nat × Nat)} (H : Hold sh mo es L) (i d : Nat) (v : Value) (c c' : Nat) : Hold sh mo (putA (1, mo i, d) v c' (putA (0, sh i, d) v c es)) (L ++ [(i, d)]) := by
  refine ⟨put_nodup (put_nodup H.nd), fun k => ?_⟩
  rw [getA_put, getA_put]
  have := H.get k
  unfold held at this ⊢
  rw [List.any_append, ← this]
  by_cases h1 : k = (1, mo i, d)
  · simp [h1]
  by_cases h0 : k = (0, sh i, d)
  · rw [if_neg h1, if_pos h0]; simp [h0]
  · rw [if_neg h1, if_neg h0]; simp [h0, h1]
theorem hang53 (g b S M : Nat) (a : Option Addr) (n c : Nat) (ws : List Wn) (i d : Nat) (es : List (Sk × Value × Nat)) (c0 : Nat) (L : List (Nat × Nat)) (h : Eng.Heap) (hg : DeskB h g b S M a n c) (hr : Row h a (wsV ws)) (hn : n = ws.length) (V : Vb S M ws) (hi : i < ws.length) (Mp : MapV kvS h b es c0) (H : Hold (shN ws) (moN ws) es L) :
    CallsH Try.prog 53 #[.pointer (some ⟨g, 0, none⟩), .int .i64 i, .int .i64 d] h (fun v h' => v = .bool (fits (shN ws) (moN ws) L i d) ∧ Chg h h' b ∧ ∃ es' c', MapV kvS h' b es' c' ∧ Hold (shN ws) (moN ws) es' (if fits (shN ws) (moN ws) L i d then L ++ [(i, d)] else L)) := by
  have hgb : g ≠ b := fun e => by have h1 := Mp.obj; unfold DeskB at hg; rw [e, h1] at hg; cases hg
  have hs := (V.s hi).1
  have hm := (V.m hi).1
  (refine CallsH_of_exec Try.func53 rfl bod53 ?_; simp only [Try.ntmps53, Try.results53, coreS, stK_some, splice, Value.cells, Value.oneCell', Nat.reduceAdd, Nat.reduceSub, Nat.reduceMul, Nat.reduceLeDiff, Int.reduceEq, Nat.reduceEqDiff, M4Fs53])
  refine CallsH.mono (spots85 g b S M a n c ws i d h hg hr hn hi) ?_
  rintro v h1 ⟨rfl, x1⟩
  rw [hs, hm]
  simp only [coreS, Value.cells, Value.oneCell', Nat.reduceAdd, Nat.reduceSub, Nat.reduceMul, Nat.reduceLeDiff, Int.reduceEq, Nat.reduceEqDiff, M4Fs53]
  refine WP_loopI [6, 8, 9, 10, 17, 18, 19, 20, 21, 22, 23, 24, 25, 26, 27, 28, 29, 30] (fun e h' => Ext h h' ∧ ∃ j : Nat, j ≤ 2 ∧ e 17 = .int .i64 j ∧ (0 < j → getA (0, shN ws i, d) es = none) ∧ (1 < j → getA (1, moN ws i, d) es = none)) (fun e _ => match e 17 with | .int _ q => 2 - q.toNat | _ => 0) ⟨x1, 0, by omega, rfl, by omega, by omega⟩ ?_
  rintro e h' ⟨x, j, hj, he, hn0, hn1⟩
  have hg' : h'[g]? = some (.cells #[.int .i64 S, .int .i64 M, .slice a n c, .map (some b)] 99) := x.get hg
  have Mp' := Mp.ext x
  have rnd : ∀ (k : Sk) (cs : List Value), ((cs = [.int .i64 0, .int .i64 (shN ws i : Nat), .int .i64 (d : Nat)] ∧ k = (0, shN ws i, d)) ∨ (cs = [.int .i64 1, .int .i64 (moN ws i : Nat), .int .i64 (d : Nat)] ∧ k = (1, moN ws i, d))) → Value.agg cs.toArray = kvS k := by
    rintro k cs (⟨rfl, rfl⟩ | ⟨rfl, rfl⟩) <;> rfl
  by_cases hj0 : j = 0
  · subst hj0
    have he : e 17 = .int .i64 0 := he
    simp only [he, idsW_arr, show ((0 : Int) < 2) by omega, decide_true, coreS, Value.cells, Value.oneCell', Nat.reduceAdd, Nat.reduceSub, Nat.reduceMul, Nat.reduceLeDiff, Int.reduceEq, Nat.reduceEqDiff, M4Fs53]
    refine index_arrT (j := 0) Try.underlying102 agg101 inf101 sz101 rfl rfl (by omega) ?_
    simp only [List.drop, List.take, stK_some, splice, coreS, stK_some, splice, Value.cells, Value.oneCell', Nat.reduceAdd, Nat.reduceSub, Nat.reduceMul, Nat.reduceLeDiff, Int.reduceEq, Nat.reduceEqDiff, M4Fs53]
    have hgl := lt_of_get hg'
    have y := x.push (.cells #[.int .i64 0, .int .i64 (shN ws i : Nat), .int .i64 (d : Nat)] 101)
    have hgn : ¬ (g = h'.size) := by omega
    refine WP_draw (by kernel_rfl) sta_eq [(0, 0), (1, 0), (2, 0), (3, 0), (4, 0), (5, 0), (6, 0), (7, 0), (8, 0), (9, 0), (10, 0)] (by kernel_rfl) rfl (by kernel_rfl) ?_
    simp only [hg', hgn, if_false, hvK_eq, coreS, Value.cells, Value.oneCell', Nat.reduceAdd, Nat.reduceSub, Nat.reduceMul, Nat.reduceLeDiff, Int.reduceEq, Nat.reduceEqDiff, drawS, M4Fs53]
    refine opQS_get Try.underlying97 zero3 keysS (Mp'.ext ((Ext.refl h').push _)) (a := (0, shN ws i, d)) rfl rfl ?_
    simp only [if_true, hvK_eq, coreS, Value.cells, Value.oneCell', Nat.reduceAdd, Nat.reduceSub, Nat.reduceMul, Nat.reduceLeDiff, Int.reduceEq, Nat.reduceEqDiff, drawS, M4Fs53]
    cases hq : (getA (0, shN ws i, d) es).isSome with
    | true =>
      have hf : fits (shN ws) (moN ws) L i d = false := by unfold fits; rw [← H.get, ← H.get, hq]; simp
      simp only [hf, coreS, Value.cells, Value.oneCell', Nat.reduceAdd, Nat.reduceSub, Nat.reduceMul, Nat.reduceLeDiff, Int.reduceEq, Nat.reduceEqDiff, M4Fs53]
      exact ⟨Chg.of_ext y b, es, c0, Mp.ext y, by simpa using H⟩
    | false =>
      simp only [coreS, Value.cells, Value.oneCell', Nat.reduceAdd, Nat.reduceSub, Nat.reduceMul, Nat.reduceLeDiff, Int.reduceEq, Nat.reduceEqDiff, M4Fs53]
      refine ⟨by rw [inK_i64]; omega, roundK_mk (by kernel_rfl) ⟨y, 1, by omega, rfl, fun _ => getA_none hq, fun hh => absurd hh (by omega)⟩ ?_⟩
      show 2 - (0 + 1 : Int).toNat < 2 - (0 : Int).toNat
      omega
  by_cases hj1 : j = 1
  · subst hj1
    have he : e 17 = .int .i64 1 := he
    simp only [he, idsW_arr, show ((1 : Int) < 2) by omega, decide_true, coreS, Value.cells, Value.oneCell', Nat.reduceAdd, Nat.reduceSub, Nat.reduceMul, Nat.reduceLeDiff, Int.reduceEq, Nat.reduceEqDiff, M4Fs53]
    refine index_arrT (j := 1) Try.underlying102 agg101 inf101 sz101 rfl rfl (by omega) ?_
    simp only [List.drop, List.take, stK_some, splice, coreS, stK_some, splice, Value.cells, Value.oneCell', Nat.reduceAdd, Nat.reduceSub, Nat.reduceMul, Nat.reduceLeDiff, Int.reduceEq, Nat.reduceEqDiff, M4Fs53]
    have hgl := lt_of_get hg'
    have y := x.push (.cells #[.int .i64 1, .int .i64 (moN ws i : Nat), .int .i64 (d : Nat)] 101)
    have hgn : ¬ (g = h'.size) := by omega
    refine WP_draw (by kernel_rfl) sta_eq [(0, 0), (1, 0), (2, 0), (3, 0), (4, 0), (5, 0), (6, 0), (7, 0), (8, 0), (9, 0), (10, 0)] (by kernel_rfl) rfl (by kernel_rfl) ?_
    simp only [hg', hgn, if_false, hvK_eq, coreS, Value.cells, Value.oneCell', Nat.reduceAdd, Nat.reduceSub, Nat.reduceMul, Nat.reduceLeDiff, Int.reduceEq, Nat.reduceEqDiff, drawS, M4Fs53]
    refine opQS_get Try.underlying97 zero3 keysS (Mp'.ext ((Ext.refl h').push _)) (a := (1, moN ws i, d)) rfl rfl ?_
    simp only [if_true, hvK_eq, coreS, Value.cells, Value.oneCell', Nat.reduceAdd, Nat.reduceSub, Nat.reduceMul, Nat.reduceLeDiff, Int.reduceEq, Nat.reduceEqDiff, drawS, M4Fs53]
    cases hq : (getA (1, moN ws i, d) es).isSome with
    | true =>
      have hf : fits (shN ws) (moN ws) L i d = false := by unfold fits; rw [← H.get, ← H.get, hq]; simp
      simp only [hf, coreS, Value.cells, Value.oneCell', Nat.reduceAdd, Nat.reduceSub, Nat.reduceMul, Nat.reduceLeDiff, Int.reduceEq, Nat.reduceEqDiff, M4Fs53]
      exact ⟨Chg.of_ext y b, es, c0, Mp.ext y, by simpa using H⟩
    | false =>
      simp only [coreS, Value.cells, Value.oneCell', Nat.reduceAdd, Nat.reduceSub, Nat.reduceMul, Nat.reduceLeDiff, Int.reduceEq, Nat.reduceEqDiff, M4Fs53]
      refine ⟨by rw [inK_i64]; omega, roundK_mk (by kernel_rfl) ⟨y, 2, by omega, rfl, fun _ => hn0 (by omega), fun _ => getA_none hq⟩ ?_⟩
      show 2 - (1 + 1 : Int).toNat < 2 - (1 : Int).toNat
      omega
  obtain rfl : j = 2 := by omega
  have he : e 17 = .int .i64 2 := he
  simp only [he, show ¬ ((2 : Int) < 2) by omega, decide_false, coreS, Value.cells, Value.oneCell', Nat.reduceAdd, Nat.reduceSub, Nat.reduceMul, Nat.reduceLeDiff, Int.reduceEq, Nat.reduceEqDiff, M4Fs53]
  have k0 := hn0 (by omega)
  have k1 := hn1 (by omega)
  have hf : fits (shN ws) (moN ws) L i d = true := by unfold fits; rw [← H.get, ← H.get, k0, k1]; rfl
  rw [hf]
  refine CallsH.mono (spots85 g b S M a n c ws i d h' hg' (hr.ext x) hn hi) ?_
  rintro v h2 ⟨rfl, x2⟩
  rw [hs, hm]
  simp only [coreS, Value.cells, Value.oneCell', Nat.reduceAdd, Nat.reduceSub, Nat.reduceMul, Nat.reduceLeDiff, Int.reduceEq, Nat.reduceEqDiff, M4Fs53]
  have Mp2 := Mp'.ext x2
  have hg2 := x2.get hg'
  have y2 := x.trans x2
  clear x x2 hg' Mp' Mp hg he rnd
  refine WP_loopI [12, 35, 36, 37, 38, 39, 40, 41, 42, 43, 44] (fun e h' => Chg h h' b ∧ h'[g]? = some (.cells #[.int .i64 S, .int .i64 M, .slice a n c, .map (some b)] 99) ∧ ((e 35 = .int .i64 0 ∧ MapV kvS h' b es c0) ∨ (e 35 = .int .i64 1 ∧ ∃ c1, MapV kvS h' b (putA (0, shN ws i, d) (.int .i64 i) c0 es) c1) ∨ (e 35 = .int .i64 2 ∧ ∃ c1 c2, MapV kvS h' b (putA (1, moN ws i, d) (.int .i64 i) c1 (putA (0, shN ws i, d) (.int .i64 i) c0 es)) c2))) (fun e _ => match e 35 with | .int _ q => 2 - q.toNat | _ => 0) ⟨Chg.of_ext y2 b, hg2, .inl ⟨rfl, Mp2⟩⟩ ?_
  rintro e h3 ⟨ch, hg3, ⟨he, M3⟩ | ⟨he, c1, M3⟩ | ⟨he, c1, c2, M3⟩⟩
  · simp only [he, idsW_arr, show ((0 : Int) < 2) by omega, decide_true, coreS, Value.cells, Value.oneCell', Nat.reduceAdd, Nat.reduceSub, Nat.reduceMul, Nat.reduceLeDiff, Int.reduceEq, Nat.reduceEqDiff, M4Fs53]
    refine index_arrT (j := 0) Try.underlying102 agg101 inf101 sz101 rfl rfl (by omega) ?_
    simp only [List.drop, List.take, stK_some, splice, coreS, stK_some, splice, Value.cells, Value.oneCell', Nat.reduceAdd, Nat.reduceSub, Nat.reduceMul, Nat.reduceLeDiff, Int.reduceEq, Nat.reduceEqDiff, M4Fs53]
    have hgl := lt_of_get hg3
    have hgn : ¬ (g = h3.size) := by omega
    refine WP_draw (by kernel_rfl) sta_eq [(0, 0), (1, 0), (2, 0), (3, 0), (4, 0), (5, 0), (6, 1)] (by kernel_rfl) rfl (by kernel_rfl) ?_
    simp only [hg3, hgn, if_false, hvK_eq, coreS, Value.cells, Value.oneCell', Nat.reduceAdd, Nat.reduceSub, Nat.reduceMul, Nat.reduceLeDiff, Int.reduceEq, Nat.reduceEqDiff, drawS, M4Fs53]
    refine map_putT Try.underlying97 keysS (M3.ext ((Ext.refl h3).push _)) (a := (0, shN ws i, d)) (v := .int .i64 i) rfl rfl rfl fun h4 M4 u4 => ?_
    simp only [hvK_eq, coreS, Value.cells, Value.oneCell', Nat.reduceAdd, Nat.reduceSub, Nat.reduceMul, Nat.reduceLeDiff, Int.reduceEq, Nat.reduceEqDiff, drawS, M4Fs53]
    refine ⟨by rw [inK_i64]; omega, roundK_mk (by kernel_rfl) ⟨(ch.push _).upd u4, u4.get (push_old hg3) hgb, .inr (.inl ⟨rfl, _, M4⟩)⟩ ?_⟩
    show 2 - (0 + 1 : Int).toNat < 2 - (0 : Int).toNat
    omega
  · simp only [he, idsW_arr, show ((1 : Int) < 2) by omega, decide_true, coreS, Value.cells, Value.oneCell', Nat.reduceAdd, Nat.reduceSub, Nat.reduceMul, Nat.reduceLeDiff, Int.reduceEq, Nat.reduceEqDiff, M4Fs53]
    refine index_arrT (j := 1) Try.underlying102 agg101 inf101 sz101 rfl rfl (by omega) ?_
    simp only [List.drop, List.take, stK_some, splice, coreS, stK_some, splice, Value.cells, Value.oneCell', Nat.reduceAdd, Nat.reduceSub, Nat.reduceMul, Nat.reduceLeDiff, Int.reduceEq, Nat.reduceEqDiff, M4Fs53]
    have hgl := lt_of_get hg3
    have hgn : ¬ (g = h3.size) := by omega
    refine WP_draw (by kernel_rfl) sta_eq [(0, 0), (1, 0), (2, 0), (3, 0), (4, 0), (5, 0), (6, 1)] (by kernel_rfl) rfl (by kernel_rfl) ?_
    simp only [hg3, hgn, if_false, hvK_eq, coreS, Value.cells, Value.oneCell', Nat.reduceAdd, Nat.reduceSub, Nat.reduceMul, Nat.reduceLeDiff, Int.reduceEq, Nat.reduceEqDiff, drawS, M4Fs53]
    refine map_putT Try.underlying97 keysS (M3.ext ((Ext.refl h3).push _)) (a := (1, moN ws i, d)) (v := .int .i64 i) rfl rfl rfl fun h4 M4 u4 => ?_
    simp only [hvK_eq, coreS, Value.cells, Value.oneCell', Nat.reduceAdd, Nat.reduceSub, Nat.reduceMul, Nat.reduceLeDiff, Int.reduceEq, Nat.reduceEqDiff, drawS, M4Fs53]
    refine ⟨by rw [inK_i64]; omega, roundK_mk (by kernel_rfl) ⟨(ch.push _).upd u4, u4.get (push_old hg3) hgb, .inr (.inr ⟨rfl, _, _, M4⟩)⟩ ?_⟩
    show 2 - (1 + 1 : Int).toNat < 2 - (1 : Int).toNat
    omega
  · simp only [he, show ¬ ((2 : Int) < 2) by omega, decide_false, coreS, Value.cells, Value.oneCell', Nat.reduceAdd, Nat.reduceSub, Nat.reduceMul, Nat.reduceLeDiff, Int.reduceEq, Nat.reduceEqDiff, M4Fs53]
    exact ⟨ch, _, _, M3, H.add i d _ _ _⟩
end Go.Proofs.Ytmgkeeefbfefgaa
