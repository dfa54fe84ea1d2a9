/- Walks: all places of a beginning that contradict each other, by the program. -/
import Derived.Test.YtoediaepoddonaaT26
import Derived.Test.YtoediaepoddonaaEngM
namespace Go.Proofs.Ytoediaepoddonaa
open Go Go.Proofs Go.Eng Go.Run Tab
set_option maxRecDepth 100000
set_option linter.unusedSimpArgs false
set_option linter.unusedVariables false
set_option maxHeartbeats 1000000
/-- The code of a beginning, by the round, which stays one. -/
theorem code56R (rb n nb cb : Nat) (ab : Option Addr) (xs : List Nat) (h h0 : Eng.Heap) (hn1 : 1 ≤ n) (hn : n ≤ 12) (H : Rnd0 h rb n (List.range n)) (x0 : Ext h0 h) (hrb : h0.size ≤ rb) (hb : begF (List.range n) xs) (hv : IntsV h0 ab nb (zs xs)) (hl : xs.length ≤ 12) :
    CallsH Try.prog 56 #[.pointer (some ⟨rb, 0, none⟩), .slice ab nb cb] h (fun v h' => Ext h0 h' ∧ Chg h h' rb ∧ (∃ L, Rnd0 h' rb n L) ∧ ∃ b, v = .slice (some ⟨b, 0, none⟩) xs.length xs.length ∧ h.size ≤ b ∧ h'[b]? = some (.cells (ints (zs (codeF (List.range n) xs))).toArray 3)) := by
  have hnb := hv.len
  rw [zs_length] at hnb
  refine CallsH_of_exec Try.func56 rfl bod56 ?_
  simp only [Try.ntmps56, Try.results56, coreS, stK_some, splice, Value.cells, Value.oneCell', Nat.reduceAdd, Nat.reduceSub, Nat.reduceMul, Nat.reduceLeDiff, Int.reduceEq, Nat.reduceEqDiff, agg3, by3, inf3, sz3, zero3, Try.underlying22]
  have hrs := H.lt
  refine WP_loopI [5, 8, 9, 15, 16, 17, 18, 19, 20, 21, 22, 23, 24, 25, 26, 27, 28, 29] (fun g h' => ∃ i : Nat, i ≤ nb ∧ g 15 = .int .i64 i ∧ Ext h0 h' ∧ Chg h h' rb ∧ Rnd0 h' rb n (aft (List.range n) (codeF (List.range n) (xs.take i))) ∧ ∃ a cap, g 5 = .slice a i cap ∧ OwnI h.size h' 3 a i cap (zs (codeF (List.range n) (xs.take i)))) (fun g _ => match g 15 with | .int _ m => nb - m.toNat | _ => 0) ?_ ?_
  · exact ⟨0, by omega, rfl, x0, Chg.of_ext (Ext.refl h) rb, by simpa [codeF, aft] using H, none, 0, rfl, OwnI.nil _ _ _⟩
  · rintro g h' ⟨i, hi, hg15, x, hch, R, a, cap, hg5, O⟩
    have hsz := hch.size
    simp only [hg15, hg5, coreS, Value.cells, Value.oneCell', Nat.reduceAdd, Nat.reduceSub, Nat.reduceMul, Nat.reduceLeDiff, Int.reduceEq, Nat.reduceEqDiff, agg3, by3, inf3, sz3, zero3, Try.underlying22]
    refine ⟨fun hlt => ?_, fun hge => ?_⟩
    · have hil : i < xs.length := by omega
      have hiz : i < (zs xs).length := by rw [zs_length]; exact hil
      simp only [(hv.ext x).cell hiz, zs_get, coreS, Value.cells, Value.oneCell', Nat.reduceAdd, Nat.reduceSub, Nat.reduceMul, Nat.reduceLeDiff, Int.reduceEq, Nat.reduceEqDiff, agg3, by3, inf3, sz3, zero3, Try.underlying22]
      refine ⟨⟨by omega, by omega⟩, (hv.ext x).isSome (by omega), ?_⟩
      have hmem : xs.getD i 0 ∈ aft (List.range n) (codeF (List.range n) (xs.take i)) := by
        refine aft_mem _ _ _ ?_
        rw [← take_next hil]
        exact begF_take hb _
      obtain ⟨L, hL⟩ : ∃ L, L = aft (List.range n) (codeF (List.range n) (xs.take i)) := ⟨_, rfl⟩
      rw [← hL] at R hmem
      refine CallsH.mono (over85 rb n _ L h' hn1 hn R hmem) ?_
      rintro v h1 ⟨rfl, x1⟩
      simp only [coreS, Value.cells, Value.oneCell', Nat.reduceAdd, Nat.reduceSub, Nat.reduceMul, Nat.reduceLeDiff, Int.reduceEq, Nat.reduceEqDiff, agg3, by3, inf3, sz3, zero3, Try.underlying22]
      have O1 := (O.ext x1).ext ((Ext.refl h1).push (.cells #[.int .i64 (L.idxOf (xs.getD i 0) : Nat)] 3))
      refine app22 rfl rfl O1 (by have := x1.size; simp; omega) intsV_one (by omega) fun a' cap' h2 O2 A => ?_
      have R2 : Rnd0 h2 rb n L := by
        refine R.get ?_
        have h3 := x1.old rb R.lt
        have h4 : (h1.push (.cells #[.int .i64 (L.idxOf (xs.getD i 0) : Nat)] 3))[rb]? = h1[rb]? := by
          rw [push_get, if_neg]
          have := x1.size; have := R.lt; omega
        rw [← h3, ← h4]
        refine A.old rb (by have := x1.size; have := R.lt; simp; omega) fun p hp => ?_
        have := (O1.lt hp).2
        omega
      have x2 : Ext h0 h2 := A.extN O1 ((x.trans x1).push _) (by have := x0.size; omega)
      have s2 : Chg h h2 rb := app_chg A O1 ((hch.trans (Chg.of_ext x1 rb)).trans (Chg.of_ext ((Ext.refl h1).push _) rb)) (Nat.le_refl _)
      simp only [coreS, Value.cells, Value.oneCell', Nat.reduceAdd, Nat.reduceSub, Nat.reduceMul, Nat.reduceLeDiff, Int.reduceEq, Nat.reduceEqDiff, agg3, by3, inf3, sz3, zero3, Try.underlying22]
      have hidx := List.idxOf_lt_length_of_mem hmem
      refine CallsH.mono (Rnd0.pass hn1 hn R2 hidx) ?_
      rintro v h3 ⟨rfl, c3, R3⟩
      simp only [coreS, Value.cells, Value.oneCell', Nat.reduceAdd, Nat.reduceSub, Nat.reduceMul, Nat.reduceLeDiff, Int.reduceEq, Nat.reduceEqDiff, agg3, by3, inf3, sz3, zero3, Try.underlying22]
      refine ⟨by rw [inK_i64]; omega, roundK_mk (by kernel_rfl) ⟨i + 1, by omega, rfl, Chg.fresh x2 c3 hrb, s2.trans c3, ?_, a', cap', rfl, ?_⟩ ?_⟩
      · rw [take_next hil, codeF_snoc, aft_snoc, ← hL]
        exact R3
      · rw [take_next hil, codeF_snoc, ← hL, zs_append]
        exact O2.keep fun p hp => c3.old _ (O2.lt hp).1 (by have := (O2.lt hp).2; omega)
      · show nb - ((i : Int) + 1).toNat < nb - (i : Int).toNat
        omega
    · have : i = nb := by omega
      subst this
      rw [List.take_of_length_le (by omega)] at O
      repeat (refine And.intro (by first | omega | (rw [inK_i64]; omega) | rfl | assumption) ?_)
      have hbk := push_new (h := h') (o := .cells (List.replicate i (.int .i64 0)).toArray 3)
      simp only [List.flatten_replicate_singleton]
      refine cpy22 rfl rfl hbk (by simp) ((O.ext ((Ext.refl h').push _)).ints) fun h2 g2 u2 => ?_
      simp only [coreS, Value.cells, Value.oneCell', Nat.reduceAdd, Nat.reduceSub, Nat.reduceMul, Nat.reduceLeDiff, Int.reduceEq, Nat.reduceEqDiff, agg3, by3, inf3, sz3, zero3, Try.underlying22]
      have hlc : (zs (codeF (List.range n) xs)).length = i := by rw [zs_length, codeF_length]; omega
      refine ⟨u2.ext (x.push _) x.size, (hch.trans (Chg.of_ext ((Ext.refl h').push _) rb)).upd_new u2 hsz, ⟨_, R.get ?_⟩, h'.size, by rw [hnb], hsz, ?_⟩
      · have := R.lt
        rw [u2.old rb (by omega), push_get, if_neg (by omega)]
      · rw [g2]
        congr 3
        rw [List.take_of_length_le (by omega)]
        simp [splice, ints_length, hlc]
/-! what places say -/
def sayV (n : Nat) (cs : List Nat) (i : Nat) : List Value := (List.range i).flatMap fun j => [.int .i64 (cs.getD j 0 : Nat), .int .i64 (n - j : Nat)]
theorem sayV_succ (n : Nat) (cs : List Nat) (i : Nat) : sayV n cs (i + 1) = sayV n cs i ++ [.int .i64 (cs.getD i 0 : Nat), .int .i64 (n - i : Nat)] := by
  simp [sayV, List.range_succ, List.flatMap_append]
theorem sayV_length (n : Nat) (cs : List Nat) : ∀ i, (sayV n cs i).length = i * 2
  | 0 => rfl
  | i + 1 => by rw [sayV_succ, List.length_append, sayV_length n cs i]; simp; omega
theorem sayV_get (n : Nat) (cs : List Nat) : ∀ (l j : Nat), j < l → ((sayV n cs l).drop (j * 2)).take 2 = [.int .i64 (cs.getD j 0 : Nat), .int .i64 (n - j : Nat)]
  | 0, j, h => by omega
  | l + 1, j, h => by
    rw [sayV_succ]
    have hl := sayV_length n cs l
    by_cases hj : j < l
    · rw [List.drop_append_of_le_length (by omega), List.take_append_of_le_length (by rw [List.length_drop]; omega)]
      exact sayV_get n cs l j hj
    · obtain rfl : j = l := by omega
      rw [List.drop_append, List.drop_eq_nil_iff.2 (by omega), hl]
      simp
/-! the map -/
def kvP (p : Nat × Nat) : Value := .agg #[.int .i64 (p.1 : Nat), .int .i64 (p.2 : Nat)]
theorem keysP : Keys Try.prog 85 kvP := by
  refine Keys.flat (ki := (Pt.pr.ty 85).getD ⟨0, 0, .any, .other, []⟩) (kf := fun p => .agg [.int .i64 (p.1 : Nat), .int .i64 (p.2 : Nat)]) (by rw [Try.underlying85]) (Pt.ok.tf (by kernel_rfl)) (fun p => ?_) (fun p q => ?_)
  · simp only [VR]
    exact ⟨_, rfl, by simpa [Eng.ints] using vl_ints (ι := fun _ => none) [(p.1 : Int), (p.2 : Int)]⟩
  · have hb := beqF_ints [(p.1 : Int), (p.2 : Int)] [(q.1 : Int), (q.2 : Int)] rfl
    have hd : decide ([(p.1 : Int), (p.2 : Int)] = [(q.1 : Int), (q.2 : Int)]) = decide (p = q) := by
      rw [decide_eq_decide]
      obtain ⟨a, b⟩ := p
      obtain ⟨c, d⟩ := q
      simp
      omega
    rw [hd] at hb
    exact hb
abbrev PE := (Nat × Nat) × Value × Nat
theorem getA_not {a : Nat × Nat} : ∀ {es : List PE}, (∀ x ∈ es, x.1 ≠ a) → getA a es = none ∧ ∀ v c, putA a v c es = es ++ [(a, v, c)]
  | [], _ => ⟨rfl, fun _ _ => rfl⟩
  | x :: es, h => by
    have h1 : ¬ a = x.1 := fun e => h x (by simp) e.symm
    obtain ⟨h2, h3⟩ := getA_not (a := a) (es := es) fun y hy => h y (by simp [hy])
    exact ⟨by simp [getA, h1, h2], fun v c => by simp [putA, h1, h3]⟩
theorem getA_mem {a : Nat × Nat} : ∀ {es : List PE}, (es.map (·.1)).Nodup → ∀ {x}, x ∈ es → x.1 = a → getA a es = some x.2.1
  | [], _, x, h, _ => by cases h
  | y :: es, hn, x, h, he => by
    rw [List.map_cons, List.nodup_cons] at hn
    rcases List.mem_cons.1 h with rfl | h
    · simp [getA, he]
    · have : ¬ a = y.1 := fun e => hn.1 (by rw [← e, ← he]; exact List.mem_map.2 ⟨x, h, rfl⟩)
      simp only [getA, this, if_false]
      exact getA_mem hn.2 h he
theorem delA_mem {a : Nat × Nat} : ∀ {es : List PE}, (es.map (·.1)).Nodup → ∀ {x}, x ∈ delA a es ↔ x ∈ es ∧ x.1 ≠ a
  | [], _, x => by simp [delA]
  | y :: es, hn, x => by
    rw [List.map_cons, List.nodup_cons] at hn
    have ih := delA_mem (a := a) hn.2 (x := x)
    by_cases hy : a = y.1
    · simp only [delA, hy, if_true, List.mem_cons]
      constructor
      · intro h
        exact ⟨.inr h, fun e => hn.1 (by rw [← e]; exact List.mem_map.2 ⟨x, h, rfl⟩)⟩
      · rintro ⟨rfl | h, hne⟩
        · exact absurd rfl hne
        · exact h
    · simp only [delA, hy, if_false, List.mem_cons, ih]
      constructor
      · rintro (rfl | ⟨h1, h2⟩)
        · exact ⟨.inl rfl, fun e => hy e.symm⟩
        · exact ⟨.inr h1, h2⟩
      · rintro ⟨rfl | h, hne⟩
        · exact .inl rfl
        · exact .inr ⟨h, hne⟩
/-- All places in the order in which the program takes them. -/
def pairsA (l : Nat) : List (Nat × Nat) := (List.range l).flatMap fun i => (List.range i).map fun k => (k, i)
def pairsB (i k : Nat) : List (Nat × Nat) := pairsA i ++ (List.range k).map fun k => (k, i)
theorem pairsA_succ (i : Nat) : pairsA (i + 1) = pairsB i i := by simp [pairsA, pairsB, List.range_succ, List.flatMap_append]
theorem pairsB_zero (i : Nat) : pairsB i 0 = pairsA i := by simp [pairsB]
theorem pairsB_succ (i k : Nat) : pairsB i (k + 1) = pairsB i k ++ [(k, i)] := by simp [pairsB, List.range_succ]
theorem pairsA_mem {l : Nat} {p : Nat × Nat} : p ∈ pairsA l ↔ p.1 < p.2 ∧ p.2 < l := by
  obtain ⟨a, b⟩ := p
  simp only [pairsA, List.mem_flatMap, List.mem_range, List.mem_map, Prod.mk.injEq]
  constructor
  · rintro ⟨i, hi, j, hj, rfl, rfl⟩; omega
  · rintro ⟨h1, h2⟩; exact ⟨b, h2, a, h1, rfl, rfl⟩
theorem pairsB_mem {i k : Nat} {p : Nat × Nat} : p ∈ pairsB i k ↔ (p.1 < p.2 ∧ p.2 < i) ∨ (p.1 < k ∧ p.2 = i) := by
  obtain ⟨a, b⟩ := p
  simp only [pairsB, List.mem_append, pairsA_mem, List.mem_map, List.mem_range, Prod.mk.injEq]
  constructor
  · rintro (h | ⟨j, hj, rfl, rfl⟩)
    · exact .inl h
    · exact .inr ⟨hj, rfl⟩
  · rintro (h | ⟨h1, rfl⟩)
    · exact .inl h
    · exact .inr ⟨a, h1, rfl, rfl⟩
theorem pairsB_nodup : ∀ (i k : Nat), (pairsB i k).Nodup
  | 0, 0 => by simp [pairsB, pairsA]
  | i + 1, 0 => by rw [pairsB_zero, pairsA_succ]; exact pairsB_nodup i i
  | i, k + 1 => by
    rw [pairsB_succ, List.nodup_append]
    refine ⟨pairsB_nodup i k, by simp, fun x hx y hy e => ?_⟩
    simp at hy
    subst e
    subst hy
    have := pairsB_mem.1 hx
    simp at this
termination_by i k => (i, k)
/-- The map's entries: one for each two places. -/
def mkE (ps : List (Nat × Nat)) : List PE := (ps.zipIdx).map fun x => (x.1, .int .i64 1, x.2)
theorem mkE_snoc (ps : List (Nat × Nat)) (p : Nat × Nat) : mkE (ps ++ [p]) = mkE ps ++ [(p, .int .i64 1, ps.length)] := by
  simp [mkE, List.zipIdx_append]
theorem mkE_keys (ps : List (Nat × Nat)) : (mkE ps).map (·.1) = ps := by
  simp only [mkE, List.map_map]
  exact List.zipIdx_map_fst 0 ps
theorem mkE_val {ps : List (Nat × Nat)} {x : PE} (h : x ∈ mkE ps) : x.2.1 = .int .i64 1 := by
  simp only [mkE, List.mem_map] at h
  obtain ⟨y, _, rfl⟩ := h
  rfl
theorem mkE_mem {ps : List (Nat × Nat)} {x : PE} (h : x ∈ mkE ps) : x.1 ∈ ps := by
  rw [← mkE_keys ps]; exact List.mem_map.2 ⟨x, h, rfl⟩
theorem mkE_put {ps : List (Nat × Nat)} {p : Nat × Nat} (h : p ∉ ps) : putA p (.int .i64 1) ps.length (mkE ps) = mkE (ps ++ [p]) ∧ clkA p (mkE ps) ps.length = (ps ++ [p]).length := by
  have := getA_not (a := p) (es := mkE ps) fun x hx e => h (by rw [← e]; exact mkE_mem hx)
  refine ⟨by rw [this.2, mkE_snoc], ?_⟩
  simp [clkA, this.1]
/-- How many entries are left to a range. -/
def leftN (r b : Nat) (h : Eng.Heap) : Nat := match h[r]?, h[b]? with
  | some (.mapIter _ _ seen _), some (.map es _) => (es.toList.filter fun e => !seen.contains e.born).length
  | _, _ => 0
theorem leftN_eq {r b since c0 c : Nat} {seen : Array Nat} {h : Eng.Heap} {es : List PE} (M : MapV kvP h b es c) (hr : h[r]? = some (.mapIter (some b) since seen c0)) : leftN r b h = (es.filter fun x => !seen.contains x.2.2).length := by
  rw [leftN, hr, M.obj]
  simp only [List.toList_toArray, List.filter_map, List.length_map]
  rfl
theorem filter_lt {α : Type} {p q : α → Bool} : ∀ {l : List α}, (∀ x ∈ l, q x = true → p x = true) → ∀ {e : α}, e ∈ l → p e = true → q e = false → (l.filter q).length < (l.filter p).length
  | [], _, e, h, _, _ => by cases h
  | y :: l, hs, e, h, hp, hq => by
    have hle : (l.filter q).length ≤ (l.filter p).length := by
      have : l.filter q = (l.filter p).filter q := by
        rw [List.filter_filter]
        apply List.filter_congr
        intro x hx
        by_cases hqx : q x = true
        · simp [hqx, hs x (by simp [hx]) hqx]
        · simp [hqx]
      rw [this]
      exact List.length_filter_le _ _
    rcases List.mem_cons.1 h with rfl | h
    · simp only [List.filter_cons, hp, hq, if_true, List.length_cons]
      simp
      omega
    · have ih := filter_lt (p := p) (q := q) (fun x hx => hs x (by simp [hx])) h hp hq
      simp only [List.filter_cons]
      by_cases hqy : q y = true
      · simp [hqy, hs y (by simp) hqy, ih]
      · by_cases hpy : p y = true
        · simp [hqy, hpy]; omega
        · simp [hqy, hpy, ih]
end Go.Proofs.Ytoediaepoddonaa
