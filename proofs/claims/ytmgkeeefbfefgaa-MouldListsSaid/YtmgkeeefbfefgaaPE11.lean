/- Texts joined by pack.py: lemmas for YtmgkeeefbfefgaaLists. No condition. -/
import Derived.Test.YtmgkeeefbfefgaaPE10
set_option linter.unusedSimpArgs false
set_option linter.unusedVariables false
set_option linter.defProp false
section
namespace Go.Proofs.Ytmgkeeefbfefgaa
open Go Go.Proofs Go.Eng Go.Run Tab
set_option maxRecDepth 100000
set_option linter.unusedSimpArgs false
set_option linter.unusedVariables false
set_option linter.defProp false
set_option maxHeartbeats 1000000
set_option linter.defProp false
def M27Fs62 := (And.intro (And.intro @agg3 @by3) (And.intro @inf3 (And.intro @sz3 @Try.underlying25)))
theorem clr25 {h : Eng.Heap} {er : Env} {ty : TypeId} {x : Operand} {g off n c : Nat} {cur : List Value} {K : Value → Eng.Heap → Prop} (hx : ev er x = .slice (some ⟨g, off, none⟩) n c) (hb : h[g]? = some (.cells cur.toArray 3 (0, 0))) (hl : off + n ≤ cur.length)
    (H : ∀ h', h'[g]? = some (.cells (splice cur off (List.replicate n (.int .i64 0))).toArray 3 (0, 0)) → Upd h h' g → K (.tuple #[]) h') : opSem Try.prog (.call ⟨.builtin .clear, #[x], #[25]⟩) ty er h K :=
  clear_intsT Try.underlying25 zero3 hx hb hl H
theorem tl_get {xs : List Int} {tl : List Value} {i : Nat} (hi : i < xs.length) : (Eng.ints xs ++ tl)[i]? = some (.int .i64 (xs.getD i 0)) := by
  rw [List.getElem?_append_left (by rw [Eng.ints_length]; exact hi), Eng.ints_getElem? _ _ hi]
theorem tl_set {xs : List Int} {tl : List Value} {i : Nat} {v : Int} (hi : i < xs.length) : splice (Eng.ints xs ++ tl) i [.int .i64 v] = Eng.ints (xs.set i v) ++ tl := by
  rw [splice_one _ _ _ (by simp [Eng.ints_length]; omega), List.set_append_left _ _ (by rw [Eng.ints_length]; exact hi), Eng.ints_set]
theorem idx_lt {p : Int → Bool} {xs : List Int} : idx p xs = -1 ∧ (∀ x ∈ xs, p x = false) ∨ ∃ i : Nat, idx p xs = i ∧ i < xs.length ∧ p (xs.getD i 0) = true ∧ ∀ x ∈ xs.take i, p x = false := by
  unfold idx
  cases hf : xs.findIdx? p with
  | none =>
    rw [List.findIdx?_eq_none_iff] at hf
    exact .inl ⟨rfl, fun x hx => by simpa using hf x hx⟩
  | some i =>
    rw [List.findIdx?_eq_some_iff_getElem] at hf
    obtain ⟨hi, hp, hno⟩ := hf
    refine .inr ⟨i, rfl, hi, by simpa [List.getD_eq_getElem?_getD, List.getElem?_eq_getElem hi] using hp, fun x hx => ?_⟩
    obtain ⟨j, hj, rfl⟩ := List.getElem_of_mem hx
    rw [List.length_take] at hj
    rw [List.getElem_take]
    simpa using hno j (by omega)
theorem filt_next {p : Int → Bool} {l : List Int} {i : Nat} (hi : i < l.length) : (l.take (i + 1)).filter p = (l.take i).filter p ++ (if p (l.getD i 0) then [l.getD i 0] else []) := by
  rw [List.take_add_one, List.getElem?_eq_getElem hi, List.filter_append]
  have : l.getD i 0 = l[i] := by rw [List.getD_eq_getElem?_getD, List.getElem?_eq_getElem hi]; rfl
  rw [this]
  congr 1
  cases hp : p l[i] <;> simp [hp]
theorem deleteFunc62g (m n c : Nat) (a : Option Addr) (xs : List Int) (q : FuncId) (caps : Array Value) (p : Int → Bool) (h : Eng.Heap) (O : OwnI m h 3 a n c xs) (hl : n ≤ 1000000)
    (hq : ∀ x ∈ xs, ∀ h', (h.size ≤ h'.size ∧ ∀ b, b < h.size → (∀ p, a = some p → p.block ≠ b) → h'[b]? = h[b]?) → CallsH Try.prog q (#[] ++ #[.int .i64 x] ++ caps) h' (fun v h'' => v = .bool (p x) ∧ h'' = h')) :
    CallsH Try.prog 62 #[.slice a n c, .func (.func q) #[] caps] h (fun v h' => (h.size ≤ h'.size ∧ ∀ b, b < h.size → (∀ p, a = some p → p.block ≠ b) → h'[b]? = h[b]?) ∧ NewI m h' 3 v (xs.filter fun x => !p x)) := by
  have hn := O.ln
  (refine CallsH_of_exec Try.func62 rfl bod62 ?_; simp only [Try.ntmps62, Try.results62, coreS, stK_some, splice, Value.cells, Value.oneCell', Nat.reduceAdd, Nat.reduceSub, Nat.reduceMul, Nat.reduceLeDiff, Int.reduceEq, Nat.reduceEqDiff, M27Fs62])
  refine CallsH.mono (indexFunc90 a n c xs q caps p h O.ints hl fun x hx h' x' => CallsH.mono (hq x hx h' ⟨x'.size, fun b hb _ => x'.old b hb⟩) fun v h'' r => ⟨r.1, by rw [r.2]; exact Ext.refl _⟩) ?_
  rintro v h1 ⟨rfl, x1⟩
  have O1 := O.ext x1
  have keep1 : h.size ≤ h1.size ∧ ∀ b, b < h.size → (∀ p, a = some p → p.block ≠ b) → h1[b]? = h[b]? := ⟨x1.size, fun b hb _ => x1.old b hb⟩
  rcases idx_lt (p := p) (xs := xs) with ⟨hi, hno⟩ | ⟨i0, hi, hil, hpi, hno⟩
  · rw [hi]
    simp only [decide_true, coreS, Value.cells, Value.oneCell', Nat.reduceAdd, Nat.reduceSub, Nat.reduceMul, Nat.reduceLeDiff, Int.reduceEq, Nat.reduceEqDiff, M27Fs62]
    have hf : xs.filter (fun x => !p x) = xs := List.filter_eq_self.2 fun x hx => by rw [hno x hx]; rfl
    rw [hf]
    exact ⟨keep1, a, c, by rw [← hn], by rw [← hn]; exact O1⟩
  · have hne : ¬ ((i0 : Nat) : Int) = -1 := by omega
    rw [hi]
    simp only [hne, decide_false, coreS, Value.cells, Value.oneCell', Nat.reduceAdd, Nat.reduceSub, Nat.reduceMul, Nat.reduceLeDiff, Int.reduceEq, Nat.reduceEqDiff, M27Fs62]
    obtain ⟨g, tl, rfl, hg, hb, hc, hc2, _⟩ := O1.block (by omega)
    have hft : (xs.take i0).filter (fun x => !p x) = xs.take i0 := List.filter_eq_self.2 fun x hx => by rw [hno x hx]; rfl
    have hf0 : (xs.take (i0 + 1)).filter (fun x => !p x) = xs.take i0 := by
      rw [filt_next (p := fun x => !p x) hil, hft, hpi]; simp
    refine ⟨by rw [inK_i64]; omega, ?_⟩
    refine WP_loopI [5, 6, 7, 16, 17, 18, 19, 20, 21, 22, 23, 24, 25, 26, 27, 28, 29, 30, 31, 32, 33, 34, 35] (fun e h' => Upd h1 h' g ∧ ∃ (i j : Nat) (zs : List Int), i < j ∧ j ≤ n ∧ e 5 = .int .i64 i ∧ e 6 = .int .i64 j ∧ zs.length = n ∧ h'[g]? = some (.cells (Eng.ints zs ++ tl).toArray 3) ∧ zs.take i = (xs.take j).filter (fun x => !p x) ∧ ∀ t, j ≤ t → zs.getD t 0 = xs.getD t 0) (fun e _ => match e 6 with | .int _ q => n - q.toNat | _ => 0) ⟨⟨rfl, fun _ _ => rfl⟩, i0, i0 + 1, xs, by omega, by omega, rfl, rfl, by omega, hb, hf0.symm, fun t _ => rfl⟩ ?_
    rintro e h' ⟨u, i, j, zs, hij, hj, he5, he6, hzl, hbz, hzt, hzd⟩
    have hsz := lt_of_get hb
    by_cases hjn : j < n
    · have hlt : (j : Int) < (n : Int) := by omega
      have cj := tl_get (xs := zs) (tl := tl) (i := j) (by omega)
      rw [hzd j (Nat.le_refl _)] at cj
      have hmem : xs.getD j 0 ∈ xs := by
        have : j < xs.length := by omega
        simp [List.getD, List.getElem?_eq_getElem this]
      have hfn := filt_next (p := fun x => !p x) (l := xs) (i := j) (by omega)
      simp only [he6, hlt, hbz, cj, decide_true, Int.toNat_natCast, coreS, Value.cells, Value.oneCell', Nat.reduceAdd, Nat.reduceSub, Nat.reduceMul, Nat.reduceLeDiff, Int.reduceEq, Nat.reduceEqDiff, M27Fs62]
      refine ⟨by omega, rfl, ?_⟩
      refine CallsH.mono (hq _ hmem h' ⟨by rw [u.size]; exact x1.size, fun b hb1 hb2 => (u.old b (fun e => hb2 _ rfl e.symm)).trans (x1.old b hb1)⟩) ?_
      rintro v h2 ⟨rfl, rfl⟩
      have meas : n - ((j : Int) + 1).toNat < n - (j : Int).toNat := by omega
      cases hp : p (xs.getD j 0) with
      | true =>
        rw [hp] at hfn
        simp only [he5, he6, Bool.not_true, coreS, Value.cells, Value.oneCell', Nat.reduceAdd, Nat.reduceSub, Nat.reduceMul, Nat.reduceLeDiff, Int.reduceEq, Nat.reduceEqDiff, M27Fs62]
        exact ⟨by rw [inK_i64]; omega, roundK_mk (by kernel_rfl) ⟨u, i, j + 1, zs, by omega, by omega, rfl, rfl, hzl, hbz, by rw [hfn, hzt]; simp, fun t ht => hzd t (by omega)⟩ meas⟩
      | false =>
        rw [hp] at hfn
        simp only [he5, he6, hbz, Bool.not_false, Int.toNat_natCast, coreS, Value.cells, Value.oneCell', Nat.reduceAdd, Nat.reduceSub, Nat.reduceMul, Nat.reduceLeDiff, Int.reduceEq, Nat.reduceEqDiff, M27Fs62]
        refine ⟨⟨by omega, by omega⟩, rfl, ?_⟩
        refine stK_abs (c := Eng.ints zs ++ tl) (vs := [.int .i64 (xs.getD j 0)]) hbz (by rw [List.length_append, Eng.ints_length, List.length_singleton]; omega) fun h3 g3 u3 => ?_
        rw [tl_set (xs := zs) (tl := tl) (i := i) (v := xs.getD j 0) (show i < zs.length by omega)] at g3
        simp only [he5, he6, coreS, Value.cells, Value.oneCell', Nat.reduceAdd, Nat.reduceSub, Nat.reduceMul, Nat.reduceLeDiff, Int.reduceEq, Nat.reduceEqDiff, M27Fs62]
        refine ⟨by rw [inK_i64]; omega, by rw [inK_i64]; omega, roundK_mk (by kernel_rfl) ⟨u.trans u3, i + 1, j + 1, zs.set i (xs.getD j 0), by omega, by omega, rfl, rfl, by rw [List.length_set]; exact hzl, g3, ?_, fun t ht => ?_⟩ meas⟩
        · rw [hfn, List.take_add_one, List.take_set_of_le (Nat.le_refl _), hzt, List.getElem?_set_self (by omega)]
          simp
        · rw [List.getD_eq_getElem?_getD, List.getElem?_set_ne (by omega), ← List.getD_eq_getElem?_getD]
          exact hzd t (by omega)
    · obtain rfl : j = n := by omega
      have hlt : ¬ ((j : Int) < (j : Int)) := by omega
      have ef : ¬ ((c : Int) = (i : Int)) := by omega
      have e1 : ((j : Int) - (i : Int)).toNat = j - i := by omega
      have e2 : ((c : Int) - (i : Int)).toNat = c - i := by omega
      rw [List.take_of_length_le (show xs.length ≤ j by omega)] at hzt
      simp only [he5, he6, hlt, ef, e1, e2, decide_false, if_false, coreS, Value.cells, Value.oneCell', Nat.reduceAdd, Nat.reduceSub, Nat.reduceMul, Nat.reduceLeDiff, Int.reduceEq, Nat.reduceEqDiff, M27Fs62]
      refine ⟨by omega, by omega, by omega, by omega, ?_⟩
      refine clr25 (g := g) (off := i) (n := j - i) (c := c - i) rfl hbz (by rw [List.length_append, Eng.ints_length, hzl]; omega) fun h3 g3 u3 => ?_
      have hsp : splice (Eng.ints zs ++ tl) i (List.replicate (j - i) (.int .i64 0)) = Eng.ints (zs.take i) ++ (List.replicate (j - i) (.int .i64 0) ++ tl) := by
        unfold splice
        rw [List.length_replicate, show i + (j - i) = j by omega, List.take_append_of_le_length (by rw [Eng.ints_length]; omega), List.drop_append_of_le_length (by rw [Eng.ints_length]; omega)]
        have e3 : (Eng.ints zs).drop j = [] := List.drop_eq_nil_iff.2 (by rw [Eng.ints_length]; omega)
        rw [e3, List.nil_append, List.append_assoc]
        simp [Eng.ints, List.map_take]
      rw [hsp] at g3
      have hli : (zs.take i).length = i := by rw [List.length_take]; omega
      have e4 : ((i : Int) - ((0 : Nat) : Int)).toNat = i := by omega
      have e5 : ((c : Int) - ((0 : Nat) : Int)).toNat = c := by omega
      simp only [e4, e5, ite_self, coreS, Value.cells, Value.oneCell', Nat.reduceAdd, Nat.reduceSub, Nat.reduceMul, Nat.reduceLeDiff, Int.reduceEq, Nat.reduceEqDiff, M27Fs62]
      refine ⟨by omega, by omega, by omega, by omega, ⟨by rw [u3.size, u.size]; exact x1.size, fun b hb1 hb2 => ?_⟩, some ⟨g, 0, none⟩, c, ?_, ?_⟩
      · exact (u3.old b (fun e => hb2 _ rfl e.symm)).trans ((u.old b (fun e => hb2 _ rfl e.symm)).trans (x1.old b hb1))
      · rw [← hzt, hli]
      · rw [← hzt]
        exact OwnI.of_block (xs := zs.take i) (tl := List.replicate (j - i) (.int .i64 0) ++ tl) hg g3 (by rw [List.length_append, List.length_replicate]; omega) (by omega)
theorem deleteFunc62 (m n c : Nat) (a : Option Addr) (xs : List Int) (q : FuncId) (caps : Array Value) (p : Int → Bool) (h : Eng.Heap) (O : OwnI m h 3 a n c xs) (hl : n ≤ 1000000)
    (hq : ∀ x ∈ xs, ∀ h', (h.size ≤ h'.size ∧ ∀ b, b < h.size → b < m → h'[b]? = h[b]?) → CallsH Try.prog q (#[] ++ #[.int .i64 x] ++ caps) h' (fun v h'' => v = .bool (p x) ∧ h'' = h')) :
    CallsH Try.prog 62 #[.slice a n c, .func (.func q) #[] caps] h (fun v h' => (h.size ≤ h'.size ∧ ∀ b, b < h.size → b < m → h'[b]? = h[b]?) ∧ NewI m h' 3 v (xs.filter fun x => !p x)) := by
  have key : ∀ {h' : Eng.Heap}, (h.size ≤ h'.size ∧ ∀ b, b < h.size → (∀ p, a = some p → p.block ≠ b) → h'[b]? = h[b]?) → h.size ≤ h'.size ∧ ∀ b, b < h.size → b < m → h'[b]? = h[b]? := fun k => ⟨k.1, fun b h1 h2 => k.2 b h1 fun p hp => by have := (O.lt hp).2; omega⟩
  refine CallsH.mono (deleteFunc62g m n c a xs q caps p h O hl fun x hx h' k => hq x hx h' (key k)) ?_
  rintro v h' ⟨k, N⟩
  exact ⟨key k, N⟩
end Go.Proofs.Ytmgkeeefbfefgaa
end
section
namespace Go.Proofs.Ytmgkeeefbfefgaa
open Go Go.Proofs Go.Eng Go.Run Tab
set_option maxRecDepth 100000
set_option linter.unusedSimpArgs false
set_option linter.unusedVariables false
set_option linter.defProp false
set_option maxHeartbeats 1000000
set_option linter.defProp false
def M25Fs69 := (And.intro (And.intro @agg3 (And.intro @by3 @inf3)) (And.intro @sz3 (And.intro @zero3 @Try.underlying25)))
def M25Fs70 := (And.intro (And.intro @agg3 @by3) (And.intro @inf3 (And.intro @sz3 @Try.underlying25)))
theorem gq_none {P : Program} {R : Eng.Heap → Eng.Heap → Prop} {s : Tmp} {w : Bool} {op : Op} {ty : TypeId} {all : List Oper} {rest : List (Nat × Nat)} {k : Cont} {dst : Option Tmp} {e : Env} {d : List Deferred} {h : Eng.Heap} : gq P R undef s w op ty all rest k dst e d h = execD P R all rest k (putE e dst undef) d h := gq_undef
def riseP (below : Int) (l : List Int) (m : Nat) : Prop := ∀ i, i < m → 0 ≤ l.getD i 0 ∧ l.getD i 0 < below ∧ (0 < i → l.getD (i - 1) 0 < l.getD i 0)
open Classical in
noncomputable def riseB (below : Int) (l : List Int) : Bool := decide (riseP below l l.length)
theorem riseP_no {below : Int} {l : List Int} {m i : Nat} (hi : i < m) (h : ¬ (0 ≤ l.getD i 0 ∧ l.getD i 0 < below ∧ (0 < i → l.getD (i - 1) 0 < l.getD i 0))) : ¬ riseP below l m := fun hh => h (hh i hi)
theorem riseB_yes {below : Int} {l : List Int} (h : riseP below l l.length) : riseB below l = true := by simp [riseB, h]
theorem riseB_no {below : Int} {l : List Int} (h : ¬ riseP below l l.length) : riseB below l = false := by simp [riseB, h]
theorem rising69 (a : Option Addr) (n c : Nat) (xs : List Int) (below : Int) (h : Eng.Heap) (hs : IntsV h a n xs) (hl : n ≤ 1000000) (hb : 0 ≤ below ∧ below ≤ 1000000) :
    CallsH Try.prog 69 #[.slice a n c, .int .i64 below] h (fun v h' => v = .bool (riseB below xs) ∧ Ext h h') := by
  have hn := hs.len
  (refine CallsH_of_exec Try.func69 rfl bod69 ?_; simp only [Try.ntmps69, Try.results69, coreS, stK_some, splice, Value.cells, Value.oneCell', Nat.reduceAdd, Nat.reduceSub, Nat.reduceMul, Nat.reduceLeDiff, Int.reduceEq, Nat.reduceEqDiff, M25Fs69])
  refine WP_loopI [4, 5, 7, 10, 11, 12, 13, 14, 15, 16, 17, 18, 19, 20, 21, 22, 23] (fun e h' => Ext h h' ∧ ∃ i : Nat, i ≤ n ∧ e 10 = .int .i64 i ∧ e 5 = .int .i64 (if i = 0 then 0 else xs.getD (i - 1) 0 + 1) ∧ riseP below xs i) (fun e _ => match e 10 with | .int _ q => n - q.toNat | _ => 0) ⟨Ext.refl _, 0, by omega, rfl, rfl, fun i hi => by omega⟩ ?_
  rintro e h' ⟨x, i, hi, he, he5, hP⟩
  by_cases hil : i < xs.length
  · have hlt : (i : Int) < (n : Int) := by omega
    have c1 := (hs.ext x).cell hil
    have sa := hs.isSome (by omega)
    have hprev : 0 < i → 0 ≤ xs.getD (i - 1) 0 ∧ xs.getD (i - 1) 0 < below := fun h0 => ⟨(hP (i - 1) (by omega)).1, (hP (i - 1) (by omega)).2.1⟩
    obtain ⟨nx, hnx⟩ : ∃ nx, nx = (if i = 0 then 0 else xs.getD (i - 1) 0 + 1) := ⟨_, rfl⟩
    rw [← hnx] at he5
    have hnb : 0 ≤ nx ∧ (i = 0 → nx = 0) ∧ (0 < i → nx = xs.getD (i - 1) 0 + 1) := by
      rw [hnx]
      by_cases h0 : i = 0
      · rw [if_pos h0]; omega
      · rw [if_neg h0]; have := hprev (by omega); omega
    simp only [he, he5, hlt, c1, decide_true, Int.toNat_natCast, splice, coreS, Value.cells, Value.oneCell', Nat.reduceAdd, Nat.reduceSub, Nat.reduceMul, Nat.reduceLeDiff, Int.reduceEq, Nat.reduceEqDiff, M25Fs69]
    refine ⟨by omega, sa, by rw [inK_i64]; omega, ?_⟩
    refine CallsH.mono (within52 nx (below - 1) _ 1 1 [xs.getD i 0] _ (intsV_one push_new) (by omega)) ?_
    rintro v h2 ⟨rfl, x2⟩
    have x2 := x2.of_push
    by_cases hw : nx ≤ xs.getD i 0 ∧ xs.getD i 0 ≤ below - 1
    · simp only [he, inB_one, hw, and_self, decide_true, Bool.not_true, coreS, Value.cells, Value.oneCell', Nat.reduceAdd, Nat.reduceSub, Nat.reduceMul, Nat.reduceLeDiff, Int.reduceEq, Nat.reduceEqDiff, M25Fs69]
      refine ⟨by rw [inK_i64]; omega, by rw [inK_i64]; omega, roundK_mk (by kernel_rfl) ⟨x.trans x2, i + 1, by omega, rfl, ?_, fun j hj => ?_⟩ ?_⟩
      · rw [if_neg (by omega), Nat.add_sub_cancel]; rfl
      · by_cases hji : j = i
        · subst hji
          refine ⟨by omega, by omega, fun h0 => ?_⟩
          have := hnb.2.2 h0
          omega
        · exact hP j (by omega)
      · show n - ((i : Int) + 1).toNat < n - (i : Int).toNat
        omega
    · simp only [he, inB_one, hw, decide_false, Bool.not_false, coreS, Value.cells, Value.oneCell', Nat.reduceAdd, Nat.reduceSub, Nat.reduceMul, Nat.reduceLeDiff, Int.reduceEq, Nat.reduceEqDiff, M25Fs69]
      refine ⟨?_, x.trans x2⟩
      have hno : ¬ riseP below xs xs.length := riseP_no hil fun ⟨g1, g2, g3⟩ => by
        apply hw
        by_cases h0 : i = 0
        · have := hnb.2.1 h0; omega
        · have := hnb.2.2 (by omega); have := g3 (by omega); omega
      rw [riseB_no hno]
  · obtain rfl : i = n := by omega
    have hlt : ¬ ((i : Int) < (i : Int)) := by omega
    simp only [he, hlt, decide_false, coreS, Value.cells, Value.oneCell', Nat.reduceAdd, Nat.reduceSub, Nat.reduceMul, Nat.reduceLeDiff, Int.reduceEq, Nat.reduceEqDiff, M25Fs69]
    rw [hn] at hP
    rw [riseB_yes hP]
    exact ⟨rfl, x⟩
theorem isList70 (a : Option Addr) (n c : Nat) (xs : List Int) (below : Int) (h : Eng.Heap) (hs : IntsV h a n xs) (hl : n ≤ 1000000) :
    CallsH Try.prog 70 #[.slice a n c, .int .i64 below] h (fun v h' => v = .bool (riseB below xs) ∧ h' = h) := by
  have hn := hs.len
  (refine CallsH_of_exec Try.func70 rfl bod70 ?_; simp only [Try.ntmps70, Try.results70, coreS, stK_some, splice, Value.cells, Value.oneCell', Nat.reduceAdd, Nat.reduceSub, Nat.reduceMul, Nat.reduceLeDiff, Int.reduceEq, Nat.reduceEqDiff, M25Fs70])
  refine WP_loopI [4, 5, 6, 7, 8, 9, 10, 11, 12, 13, 14, 15, 16, 17, 18, 19, 20, 21, 22, 23, 24, 25, 26, 27, 28, 29, 30, 31, 32, 33, 34, 35, 36, 37, 38, 39, 40] (fun e h' => h' = h ∧ ∃ i : Nat, i ≤ n ∧ e 5 = .int .i64 i ∧ riseP below xs i) (fun e _ => match e 5 with | .int _ q => n - q.toNat | _ => 0) ⟨rfl, 0, by omega, rfl, fun i hi => by omega⟩ ?_
  rintro e h' ⟨rfl, i, hi, he, hP⟩
  by_cases hil : i < xs.length
  · have hlt : (i : Int) < (n : Int) := by omega
    have c1 := hs.cell hil
    have sa := hs.isSome (by omega)
    have bad : ∀ {v : Value}, ¬ (0 ≤ xs.getD i 0 ∧ xs.getD i 0 < below ∧ (0 < i → xs.getD (i - 1) 0 < xs.getD i 0)) → v = .bool false → v = .bool (riseB below xs) ∧ h' = h' := fun hh hv => ⟨by rw [hv, riseB_no (riseP_no hil hh)], rfl⟩
    have good : 0 ≤ xs.getD i 0 ∧ xs.getD i 0 < below ∧ (0 < i → xs.getD (i - 1) 0 < xs.getD i 0) → riseP below xs (i + 1) := fun hh j hj => by
      by_cases hji : j = i
      · subst hji; exact hh
      · exact hP j (by omega)
    simp only [he, hlt, decide_true, coreS, Value.cells, Value.oneCell', Nat.reduceAdd, Nat.reduceSub, Nat.reduceMul, Nat.reduceLeDiff, Int.reduceEq, Nat.reduceEqDiff, M25Fs70]
    refine WP_draw (by kernel_rfl) sta_eq [(0, 0), (1, 0), (2, 0), (3, 0), (4, 0), (5, 0), (6, 0), (7, 0), (8, 0), (9, 0), (10, 0), (11, 0), (12, 0), (13, 0), (14, 0), (15, 0), (16, 0), (17, 0), (18, 0), (19, 0), (20, 0), (21, 0), (22, 0), (23, 0), (24, 0), (25, 0), (26, 0), (27, 0), (28, 0)] (by kernel_rfl) rfl (by kernel_rfl) ?_
    by_cases t1 : xs.getD i 0 < 0
    · simp only [he, c1, t1, decide_true, Int.toNat_natCast, hvK_eq, gq_none, coreS, Value.cells, Value.oneCell', Nat.reduceAdd, Nat.reduceSub, Nat.reduceMul, Nat.reduceLeDiff, Int.reduceEq, Nat.reduceEqDiff, drawS, M25Fs70]
      refine ⟨⟨by omega, by omega⟩, sa, ?_⟩
      exact (bad (fun hh => by omega) rfl).1
    by_cases t2 : below ≤ xs.getD i 0
    · simp only [he, c1, t1, t2, decide_true, decide_false, Int.toNat_natCast, hvK_eq, gq_none, coreS, Value.cells, Value.oneCell', Nat.reduceAdd, Nat.reduceSub, Nat.reduceMul, Nat.reduceLeDiff, Int.reduceEq, Nat.reduceEqDiff, drawS, M25Fs70]
      refine ⟨⟨by omega, by omega⟩, sa, ⟨by omega, by omega⟩, sa, ?_⟩
      exact (bad (fun hh => by omega) rfl).1
    by_cases t3 : (0 : Int) < (i : Int)
    · have em : (i : Int) - 1 = ((i - 1 : Nat) : Int) := by omega
      have c2 := hs.cell (j := i - 1) (by omega)
      simp only [he, c1, t1, t2, t3, em, c2, decide_true, decide_false, Int.toNat_natCast, hvK_eq, gq_none, coreS, Value.cells, Value.oneCell', Nat.reduceAdd, Nat.reduceSub, Nat.reduceMul, Nat.reduceLeDiff, Int.reduceEq, Nat.reduceEqDiff, drawS, M25Fs70]
      refine ⟨⟨by omega, by omega⟩, sa, ⟨by omega, by omega⟩, sa, ⟨by omega, by omega⟩, sa, by rw [inK_i64]; omega, ⟨by omega, by omega⟩, sa, ?_⟩
      by_cases t4 : xs.getD i 0 ≤ xs.getD (i - 1) 0
      · simp only [t4, decide_true, coreS, Value.cells, Value.oneCell', Nat.reduceAdd, Nat.reduceSub, Nat.reduceMul, Nat.reduceLeDiff, Int.reduceEq, Nat.reduceEqDiff, M25Fs70]
        exact (bad (fun hh => by have := hh.2.2 (by omega); omega) rfl).1
      · simp only [he, t4, decide_false, coreS, Value.cells, Value.oneCell', Nat.reduceAdd, Nat.reduceSub, Nat.reduceMul, Nat.reduceLeDiff, Int.reduceEq, Nat.reduceEqDiff, M25Fs70]
        refine ⟨by rw [inK_i64]; omega, roundK_mk (by kernel_rfl) ⟨rfl, i + 1, by omega, rfl, good ⟨by omega, by omega, fun _ => by omega⟩⟩ ?_⟩
        show n - ((i : Int) + 1).toNat < n - (i : Int).toNat
        omega
    · simp only [he, c1, t1, t2, t3, decide_true, decide_false, Int.toNat_natCast, hvK_eq, gq_none, coreS, Value.cells, Value.oneCell', Nat.reduceAdd, Nat.reduceSub, Nat.reduceMul, Nat.reduceLeDiff, Int.reduceEq, Nat.reduceEqDiff, drawS, M25Fs70]
      refine ⟨⟨by omega, by omega⟩, sa, ⟨by omega, by omega⟩, sa, ?_⟩
      refine ⟨by rw [inK_i64]; omega, roundK_mk (by kernel_rfl) ⟨rfl, i + 1, by omega, rfl, good ⟨by omega, by omega, fun _ => by omega⟩⟩ ?_⟩
      show n - ((i : Int) + 1).toNat < n - (i : Int).toNat
      omega
  · obtain rfl : i = n := by omega
    have hlt : ¬ ((i : Int) < (i : Int)) := by omega
    simp only [he, hlt, decide_false, coreS, Value.cells, Value.oneCell', Nat.reduceAdd, Nat.reduceSub, Nat.reduceMul, Nat.reduceLeDiff, Int.reduceEq, Nat.reduceEqDiff, M25Fs70]
    rw [hn] at hP
    rw [riseB_yes hP]
end Go.Proofs.Ytmgkeeefbfefgaa
end
section
namespace Go.Proofs.Ytmgkeeefbfefgaa
open Go Go.Proofs Go.Eng Go.Run Tab
set_option maxRecDepth 100000
set_option linter.unusedSimpArgs false
set_option linter.unusedVariables false
set_option linter.defProp false
set_option maxHeartbeats 1000000
set_option linter.defProp false
def M26Fs30 := (And.intro (And.intro (And.intro @agg22 (And.intro @agg24 @agg3)) (And.intro @by3 (And.intro @fo24_2 @inf22))) (And.intro (And.intro @inf24 (And.intro @inf3 @sz22)) (And.intro (And.intro @sz24 @sz3) (And.intro @Try.underlying22 @Try.underlying25))))
def M26Fs31 := (And.intro (And.intro (And.intro @agg22 @agg24) (And.intro @fo24_2 @inf22)) (And.intro (And.intro @inf24 @sz22) (And.intro @sz24 @Try.underlying22)))
def M26Fs74 := (And.intro (And.intro (And.intro @agg24 @agg3) (And.intro @by3 @inf24)) (And.intro (And.intro @inf3 @sz24) (And.intro @sz3 @Try.underlying25)))
open Classical in
/-- The error of CheckList. -/
noncomputable def chkL (S M : Int) (ws : List Wn) (list : List Int) : Int :=
  if chk S M ws ≠ 0 then chk S M ws else if ¬ riseP ws.length list list.length then 3 else if MB.free (shN ws) (moN ws) (natL list) then 0 else 18
def onZ (l : List Nat) : List (Nat × Nat) := l.map fun i => (i, 0)
theorem onZ_snoc (l : List Nat) (i : Nat) : onZ (l ++ [i]) = onZ l ++ [(i, 0)] := by simp [onZ]
theorem fits_Z {sh mo : Nat → Nat} {l : List Nat} {i : Nat} : fits sh mo (onZ l) i 0 = true ↔ ∀ k ∈ l, sh k ≠ sh i ∧ mo k ≠ mo i := by
  rw [fits_iff]
  constructor
  · intro H k hk
    exact H (k, 0) (List.mem_map.2 ⟨k, hk, rfl⟩) rfl
  · intro H x hx _
    obtain ⟨k, hk, rfl⟩ := List.mem_map.1 hx
    exact H k hk
theorem free_snoc {sh mo : Nat → Nat} {l : List Nat} {i : Nat} : MB.free sh mo (l ++ [i]) ↔ MB.free sh mo l ∧ ∀ k ∈ l, sh k ≠ sh i ∧ mo k ≠ mo i := by
  unfold MB.free
  rw [List.pairwise_append]
  simp
theorem natL_take_succ {xs : List Int} {i : Nat} (hi : i < xs.length) : (natL xs).take (i + 1) = (natL xs).take i ++ [(xs.getD i 0).toNat] := by
  rw [List.take_add_one, List.getElem?_eq_getElem (by rw [natL_length]; exact hi)]
  have : (natL xs)[i]'(by rw [natL_length]; exact hi) = (xs.getD i 0).toNat := by
    rw [← natL_get, List.getD_eq_getElem?_getD, List.getElem?_eq_getElem (by rw [natL_length]; exact hi)]; rfl
  rw [this]; rfl
theorem free_take {sh mo : Nat → Nat} {l : List Nat} {i : Nat} (h : MB.free sh mo l) : MB.free sh mo (l.take i) := List.Pairwise.sublist (List.take_sublist _ _) h
theorem checkList30 (S M : Int) (a : Option Addr) (n c : Nat) (ws : List Wn) (b : Option Addr) (m k : Nat) (list : List Int) (h : Eng.Heap) (hr : Row h a (wsV ws)) (hn : n = ws.length) (hl : n ≤ 1000000) (hd : IntsV h b m list) (hm : m ≤ 1000000) :
    CallsH Try.prog 30 #[.agg #[.int .i64 S, .int .i64 M, .slice a n c], .slice b m k] h (fun v h' => v = .int .i64 (chkL S M ws list) ∧ Ext h h') := by
  have hml := hd.len
  (refine CallsH_of_exec Try.func30 rfl bod30 ?_; simp only [Try.ntmps30, Try.results30, coreS, stK_some, splice, Value.cells, Value.oneCell', Nat.reduceAdd, Nat.reduceSub, Nat.reduceMul, Nat.reduceLeDiff, Int.reduceEq, Nat.reduceEqDiff, M26Fs30])
  have x0 : Ext h (h.push (.cells #[.int .i64 S, .int .i64 M, .slice a n c] 24)) := (Ext.refl h).push _
  have fin : ∀ {e : Int} {Q : Prop}, chkL S M ws list = e → Q → Value.int .i64 e = Value.int .i64 (chkL S M ws list) ∧ Q := fun h1 q => ⟨by rw [h1], q⟩
  refine CallsH.mono (open49 S M a n c ws _ (hr.push _) hn hl) ?_
  rintro v h1 ⟨x1, ⟨s, mm, rfl, rfl, V, g, mb, rfl, hg, hmb, hgs, hbs⟩ | ⟨hc, rfl⟩⟩
  rotate_left
  · simp only [hc, decide_false, Bool.not_false, coreS, Value.cells, Value.oneCell', Nat.reduceAdd, Nat.reduceSub, Nat.reduceMul, Nat.reduceLeDiff, Int.reduceEq, Nat.reduceEqDiff, M26Fs30]
    exact fin (by unfold chkL; rw [if_pos hc]) (x0.trans x1)
  have hb1 := x1.get (push_new (h := h))
  have y1 := x0.trans x1
  have hc0 := V.chk
  have hV := V.n
  simp only [hb1, Bool.not_true, decide_true, coreS, Value.cells, Value.oneCell', Nat.reduceAdd, Nat.reduceSub, Nat.reduceMul, Nat.reduceLeDiff, Int.reduceEq, Nat.reduceEqDiff, M26Fs30]
  refine CallsH.mono (rising69 b m k list n h1 (hd.ext y1) hm ⟨by omega, by omega⟩) ?_
  rintro v h2 ⟨rfl, x2⟩
  have y2 := y1.trans x2
  by_cases hrise : riseP (n : Int) list list.length
  case neg =>
    simp only [riseB_no hrise, Bool.not_false, coreS, Value.cells, Value.oneCell', Nat.reduceAdd, Nat.reduceSub, Nat.reduceMul, Nat.reduceLeDiff, Int.reduceEq, Nat.reduceEqDiff, M26Fs30]
    exact fin (by unfold chkL; rw [if_neg (by simpa using hc0), if_pos (by rw [← hn]; exact hrise)]) y2
  have hg2 := x2.get hg
  have hmb2 := x2.get hmb
  have hgs1 := lt_of_get hg
  have hgm : g ≠ mb := fun e => by unfold DeskB at hg; rw [e, hmb] at hg; cases hg
  rw [push_size] at hbs hgs
  have hM0 : MapV kvS h2 mb [] 0 := ⟨by simpa using hmb2, by simp, by simp⟩
  simp only [riseB_yes hrise, Bool.not_true, coreS, Value.cells, Value.oneCell', Nat.reduceAdd, Nat.reduceSub, Nat.reduceMul, Nat.reduceLeDiff, Int.reduceEq, Nat.reduceEqDiff, M26Fs30]
  refine WP_loopI [4, 8, 27, 28, 29, 30, 31, 32, 33, 34, 35] (fun e h' => Chg h2 h' mb ∧ DeskB h' g mb s mm a n c ∧ ∃ i : Nat, i ≤ m ∧ e 27 = .int .i64 i ∧ (∃ es c0, MapV kvS h' mb es c0 ∧ Hold (shN ws) (moN ws) es (onZ ((natL list).take i))) ∧ MB.free (shN ws) (moN ws) ((natL list).take i)) (fun e _ => match e 27 with | .int _ q => m - q.toNat | _ => 0) ⟨Chg.refl _ _, hg2, 0, by omega, rfl, ⟨_, _, hM0, by simpa [onZ] using Hold.nil⟩, by simp [MB.free]⟩ ?_
  rintro e h' ⟨ch, hg', i, hi, he, ⟨es, c0, Mp, H⟩, hR⟩
  have hd' := (hd.ext y2).chg hmb2 ch
  have hr' := (hr.ext y2).chg hmb2 ch
  by_cases hil : i < list.length
  · have hlt : (i : Int) < (m : Int) := by omega
    have hcell := hd'.cell hil
    obtain ⟨r1, r2, r3⟩ := hrise i hil
    obtain ⟨x, hx⟩ : ∃ x : Nat, list.getD i 0 = x := ⟨(list.getD i 0).toNat, by omega⟩
    have hts := natL_take_succ hil
    rw [hx, Int.toNat_natCast] at hts
    rw [hx] at hcell r2
    simp only [he, hlt, hcell, decide_true, coreS, Value.cells, Value.oneCell', Nat.reduceAdd, Nat.reduceSub, Nat.reduceMul, Nat.reduceLeDiff, Int.reduceEq, Nat.reduceEqDiff, M26Fs30]
    refine ⟨by omega, hd.isSome (by omega), ?_⟩
    refine CallsH.mono (hang53 g mb s mm a n c ws x 0 es c0 _ h' hg' hr' hn V (by omega) Mp H) ?_
    rintro v h3 ⟨rfl, ch3, es', c', Mp3, H3⟩
    cases hf : fits (shN ws) (moN ws) (onZ ((natL list).take i)) x 0 with
    | false =>
      simp only [Bool.not_false, coreS, Value.cells, Value.oneCell', Nat.reduceAdd, Nat.reduceSub, Nat.reduceMul, Nat.reduceLeDiff, Int.reduceEq, Nat.reduceEqDiff, M26Fs30]
      refine fin ?_ (Chg.fresh y2 (ch.trans ch3) (by omega))
      unfold chkL
      rw [if_neg (by simpa using hc0), if_neg (by rw [← hn]; simpa using hrise), if_neg]
      intro hfr
      have h1 := free_take (i := i + 1) hfr
      rw [hts] at h1
      have := fits_Z.2 (free_snoc.1 h1).2
      rw [hf] at this; cases this
    | true =>
      rw [hf, if_pos rfl, ← onZ_snoc, ← hts] at H3
      simp only [Bool.not_true, coreS, Value.cells, Value.oneCell', Nat.reduceAdd, Nat.reduceSub, Nat.reduceMul, Nat.reduceLeDiff, Int.reduceEq, Nat.reduceEqDiff, M26Fs30]
      refine ⟨by rw [inK_i64]; omega, roundK_mk (by kernel_rfl) ⟨ch.trans ch3, ch3.get hg' hgm, i + 1, by omega, rfl, ⟨_, _, Mp3, H3⟩, by rw [hts]; exact free_snoc.2 ⟨hR, fits_Z.1 hf⟩⟩ ?_⟩
      show m - ((i : Int) + 1).toNat < m - (i : Int).toNat
      omega
  · obtain rfl : i = m := by omega
    have hlt : ¬ ((i : Int) < (i : Int)) := by omega
    rw [List.take_of_length_le (by rw [natL_length]; omega)] at hR
    simp only [he, hlt, decide_false, coreS, Value.cells, Value.oneCell', Nat.reduceAdd, Nat.reduceSub, Nat.reduceMul, Nat.reduceLeDiff, Int.reduceEq, Nat.reduceEqDiff, M26Fs30]
    refine fin ?_ (Chg.fresh y2 ch (by omega))
    unfold chkL
    rw [if_neg (by simpa using hc0), if_neg (by rw [← hn]; simpa using hrise), if_pos hR]
theorem isDay74 (S M : Nat) (a : Option Addr) (n c : Nat) (ws : List Wn) (b : Option Addr) (m k : Nat) (list : List Int) (h : Eng.Heap) (hr : Row h a (wsV ws)) (hn : n = ws.length) (V : Vb S M ws) (hd : IntsV h b m list) (hm : m ≤ 1000000) (h0 : ∀ i, i < list.length → 0 ≤ list.getD i 0 ∧ list.getD i 0 < n) :
    CallsH Try.prog 74 #[.agg #[.int .i64 S, .int .i64 M, .slice a n c], .slice b m k] h (fun v h' => (∃ r : Bool, v = .bool r ∧ (r = true ↔ MB.free (shN ws) (moN ws) (natL list))) ∧ Ext h h') := by
  have hml := hd.len
  have V3 := V.n
  have hnat : ∀ i, i < list.length → ∃ x : Nat, list.getD i 0 = x ∧ x < n ∧ (natL list).getD i 0 = x := fun i hi => by
    have := h0 i hi
    exact ⟨(list.getD i 0).toNat, by omega, by omega, by rw [natL_get]⟩
  (refine CallsH_of_exec Try.func74 rfl bod74 ?_; simp only [Try.ntmps74, Try.results74, coreS, stK_some, splice, Value.cells, Value.oneCell', Nat.reduceAdd, Nat.reduceSub, Nat.reduceMul, Nat.reduceLeDiff, Int.reduceEq, Nat.reduceEqDiff, M26Fs74])
  have x0 : Ext h (h.push (.cells #[.int .i64 S, .int .i64 M, .slice a n c] 24)) := (Ext.refl h).push _
  have hb0 := push_new (h := h) (o := .cells #[.int .i64 S, .int .i64 M, .slice a n c] 24)
  generalize h.push (.cells #[.int .i64 S, .int .i64 M, .slice a n c] 24) = hh at x0 hb0 ⊢
  refine WP_loopI [4, 5, 6, 7, 8, 9, 10, 11, 12, 13, 14, 15, 16, 17, 18, 19, 20, 21, 22, 23, 24, 25, 26, 27] (fun e h' => Ext hh h' ∧ ∃ i : Nat, i ≤ m ∧ e 5 = .int .i64 i ∧ MB.free (shN ws) (moN ws) ((natL list).take i)) (fun e _ => match e 5 with | .int _ q => m - q.toNat | _ => 0) ⟨Ext.refl _, 0, by omega, rfl, by simp [MB.free]⟩ ?_
  rintro e h1 ⟨x1, i, hi, he, hR⟩
  by_cases hil : i < list.length
  · have hlt : (i : Int) < (m : Int) := by omega
    obtain ⟨x, hx, hxn, hxg⟩ := hnat i hil
    have hts := natL_take_succ hil
    rw [hx, Int.toNat_natCast] at hts
    simp only [he, hlt, decide_true, coreS, Value.cells, Value.oneCell', Nat.reduceAdd, Nat.reduceSub, Nat.reduceMul, Nat.reduceLeDiff, Int.reduceEq, Nat.reduceEqDiff, M26Fs74]
    refine WP_loopI [4, 6, 13, 14, 15, 16, 17, 18, 19, 20, 21, 22, 23, 24, 25, 26, 27] (fun e h' => Ext hh h' ∧ ∃ q : Nat, q ≤ i ∧ e 6 = .int .i64 q ∧ ∀ t ∈ (natL list).take q, shN ws t ≠ shN ws x ∧ moN ws t ≠ moN ws x) (fun e _ => match e 6 with | .int _ q => i - q.toNat | _ => 0) ⟨x1, 0, by omega, rfl, by simp⟩ ?_
    rintro e2 h2 ⟨x2, q, hq, he2, hno⟩
    have hb2 := x2.get hb0
    have y2 := x0.trans x2
    by_cases hqi : q < i
    · have hlt2 : (q : Int) < (i : Int) := by omega
      obtain ⟨z, hz, hzn, hzg⟩ := hnat q (by omega)
      have htq := natL_take_succ (xs := list) (i := q) (by omega)
      rw [hz, Int.toNat_natCast] at htq
      have hd2 := hd.ext y2
      have c1 := hd2.cell hil
      have c2 := hd2.cell (j := q) (by omega)
      rw [hx] at c1
      rw [hz] at c2
      have hds : b.isSome = true := hd.isSome (by omega)
      simp only [he2, hlt2, decide_true, coreS, Value.cells, Value.oneCell', Nat.reduceAdd, Nat.reduceSub, Nat.reduceMul, Nat.reduceLeDiff, Int.reduceEq, Nat.reduceEqDiff, M26Fs74]
      refine WP_draw (by kernel_rfl) sta_ext [(0, 0), (1, 0), (2, 0), (3, 0), (4, 0), (5, 0), (6, 0), (7, 0), (8, 0), (9, 0)] (by kernel_rfl) rfl (by kernel_rfl) ?_
      simp only [he, he2, hb2, c1, c2, Int.toNat_natCast, coreS, Value.cells, Value.oneCell', Nat.reduceAdd, Nat.reduceSub, Nat.reduceMul, Nat.reduceLeDiff, Int.reduceEq, Nat.reduceEqDiff, drawS, M26Fs74]
      refine ⟨⟨by omega, by omega⟩, hds, ⟨by omega, by omega⟩, hds, ?_⟩
      refine cQ_ext _ (fun h3 x3 => clash79 S M a n c ws x z h3 (hr.ext (y2.trans x3)) hn V (by omega) (by omega)) ?_
      cases hcl : MB.clash (shN ws) (moN ws) x z with
      | true =>
        simp only [coreS, Value.cells, Value.oneCell', Nat.reduceAdd, Nat.reduceSub, Nat.reduceMul, Nat.reduceLeDiff, Int.reduceEq, Nat.reduceEqDiff, drawS, M26Fs74]
        refine hvK_mk fun h3 x3 => ?_
        simp only [coreS, Value.cells, Value.oneCell', Nat.reduceAdd, Nat.reduceSub, Nat.reduceMul, Nat.reduceLeDiff, Int.reduceEq, Nat.reduceEqDiff, M26Fs74]
        refine ⟨⟨false, rfl, Iff.intro (fun hf => absurd hf (by simp)) (fun hr1 => ?_)⟩, y2.trans x3⟩
        have h5 := free_take (i := i + 1) hr1
        rw [hts] at h5
        have hzm : z ∈ (natL list).take i := by
          have e1 : (natL list).take (q + 1) <+: (natL list).take i := List.take_prefix_take_left (by omega)
          exact e1.subset (by rw [htq]; simp)
        have h6 := (free_snoc.1 h5).2 z hzm
        have := MB.clash_no.2 ⟨fun e => h6.1 e.symm, fun e => h6.2 e.symm⟩
        rw [hcl] at this; cases this
      | false =>
        simp only [coreS, Value.cells, Value.oneCell', Nat.reduceAdd, Nat.reduceSub, Nat.reduceMul, Nat.reduceLeDiff, Int.reduceEq, Nat.reduceEqDiff, drawS, M26Fs74]
        refine hvK_mk fun h3 x3 => ?_
        simp only [he2, coreS, Value.cells, Value.oneCell', Nat.reduceAdd, Nat.reduceSub, Nat.reduceMul, Nat.reduceLeDiff, Int.reduceEq, Nat.reduceEqDiff, M26Fs74]
        have h5 := MB.clash_no.1 hcl
        refine ⟨by rw [inK_i64]; omega, roundK_mk (by kernel_rfl) ⟨x2.trans x3, q + 1, by omega, rfl, fun t ht => ?_⟩ ?_⟩
        · rw [htq] at ht
          rcases List.mem_append.1 ht with ht | ht
          · exact hno t ht
          · rw [List.mem_singleton.1 ht]
            exact ⟨fun e => h5.1 e.symm, fun e => h5.2 e.symm⟩
        · show i - ((q : Int) + 1).toNat < i - (q : Int).toNat
          omega
    · obtain rfl : q = i := by omega
      have hlt2 : ¬ ((q : Int) < (q : Int)) := by omega
      simp only [he, he2, hlt2, decide_false, coreS, Value.cells, Value.oneCell', Nat.reduceAdd, Nat.reduceSub, Nat.reduceMul, Nat.reduceLeDiff, Int.reduceEq, Nat.reduceEqDiff, M26Fs74]
      refine ⟨by rw [inK_i64]; omega, roundK_mk (by kernel_rfl) ⟨x2, q + 1, by omega, rfl, by rw [hts]; exact free_snoc.2 ⟨hR, hno⟩⟩ ?_⟩
      show m - ((q : Int) + 1).toNat < m - (q : Int).toNat
      omega
  · obtain rfl : i = m := by omega
    have hlt : ¬ ((i : Int) < (i : Int)) := by omega
    rw [List.take_of_length_le (by rw [natL_length]; omega)] at hR
    simp only [he, hlt, decide_false, coreS, Value.cells, Value.oneCell', Nat.reduceAdd, Nat.reduceSub, Nat.reduceMul, Nat.reduceLeDiff, Int.reduceEq, Nat.reduceEqDiff, M26Fs74]
    exact ⟨⟨true, rfl, Iff.intro (fun _ => hR) (fun _ => rfl)⟩, x0.trans x1⟩
theorem checkList31 (S M : Int) (a : Option Addr) (n c : Nat) (ws : List Wn) (b : Option Addr) (m k : Nat) (list : List Int) (h : Eng.Heap) (hr : Row h a (wsV ws)) (hn : n = ws.length) (hl : n ≤ 1000000) (hd : IntsV h b m list) (hm : m ≤ 1000000) :
    CallsH Try.prog 31 #[.agg #[.int .i64 S, .int .i64 M, .slice a n c], .slice b m k] h (fun v h' => v = .int .i64 (chkL S M ws list) ∧ Ext h h') := by
  have hml := hd.len
  (refine CallsH_of_exec Try.func31 rfl bod31 ?_; simp only [Try.ntmps31, Try.results31, coreS, stK_some, splice, Value.cells, Value.oneCell', Nat.reduceAdd, Nat.reduceSub, Nat.reduceMul, Nat.reduceLeDiff, Int.reduceEq, Nat.reduceEqDiff, M26Fs31])
  have x0 : Ext h (h.push (.cells #[.int .i64 S, .int .i64 M, .slice a n c] 24)) := (Ext.refl h).push _
  have fin : ∀ {e : Int} {Q : Prop}, chkL S M ws list = e → Q → Value.int .i64 e = Value.int .i64 (chkL S M ws list) ∧ Q := fun h1 q => ⟨by rw [h1], q⟩
  refine CallsH.mono (check23 S M a n c ws _ (hr.push _) hn hl) ?_
  rintro v h1 ⟨rfl, x1⟩
  have hb1 := x1.get (push_new (h := h))
  have y1 := x0.trans x1
  by_cases hc : chk S M ws = 0
  case neg =>
    simp only [hc, hb1, decide_false, Bool.not_false, coreS, Value.cells, Value.oneCell', Nat.reduceAdd, Nat.reduceSub, Nat.reduceMul, Nat.reduceLeDiff, Int.reduceEq, Nat.reduceEqDiff, M26Fs31]
    refine CallsH.mono (check23 S M a n c ws _ (hr.ext y1) hn hl) ?_
    rintro v h2 ⟨rfl, x2⟩
    simp only [coreS, Value.cells, Value.oneCell', Nat.reduceAdd, Nat.reduceSub, Nat.reduceMul, Nat.reduceLeDiff, Int.reduceEq, Nat.reduceEqDiff, M26Fs31]
    exact fin (by unfold chkL; rw [if_pos hc]) (y1.trans x2)
  obtain ⟨s, mm, rfl, rfl, V⟩ := chk_ok hc
  simp only [hc, hb1, Bool.not_true, decide_true, coreS, Value.cells, Value.oneCell', Nat.reduceAdd, Nat.reduceSub, Nat.reduceMul, Nat.reduceLeDiff, Int.reduceEq, Nat.reduceEqDiff, M26Fs31]
  refine CallsH.mono (isList70 b m k list n h1 (hd.ext y1) hm) ?_
  rintro v h2 ⟨rfl, rfl⟩
  by_cases hrise : riseP (n : Int) list list.length
  case neg =>
    simp only [riseB_no hrise, Bool.not_false, coreS, Value.cells, Value.oneCell', Nat.reduceAdd, Nat.reduceSub, Nat.reduceMul, Nat.reduceLeDiff, Int.reduceEq, Nat.reduceEqDiff, M26Fs31]
    exact fin (by unfold chkL; rw [if_neg (by simpa using hc), if_pos (by rw [← hn]; exact hrise)]) y1
  simp only [riseB_yes hrise, hb1, Bool.not_true, coreS, Value.cells, Value.oneCell', Nat.reduceAdd, Nat.reduceSub, Nat.reduceMul, Nat.reduceLeDiff, Int.reduceEq, Nat.reduceEqDiff, M26Fs31]
  refine CallsH.mono (isDay74 s mm a n c ws b m k list h2 (hr.ext y1) hn V (hd.ext y1) hm fun i hi => ⟨(hrise i hi).1, (hrise i hi).2.1⟩) ?_
  rintro v h3 ⟨⟨r, rfl, hrr⟩, x3⟩
  cases r with
  | false =>
    simp only [Bool.not_false, coreS, Value.cells, Value.oneCell', Nat.reduceAdd, Nat.reduceSub, Nat.reduceMul, Nat.reduceLeDiff, Int.reduceEq, Nat.reduceEqDiff, M26Fs31]
    exact fin (by unfold chkL; rw [if_neg (by simpa using hc), if_neg (by rw [← hn]; simpa using hrise), if_neg (fun hh => absurd (hrr.2 hh) (by simp))]) (y1.trans x3)
  | true =>
    simp only [Bool.not_true, coreS, Value.cells, Value.oneCell', Nat.reduceAdd, Nat.reduceSub, Nat.reduceMul, Nat.reduceLeDiff, Int.reduceEq, Nat.reduceEqDiff, M26Fs31]
    exact fin (by unfold chkL; rw [if_neg (by simpa using hc), if_neg (by rw [← hn]; simpa using hrise), if_pos (hrr.1 rfl)]) (y1.trans x3)
end Go.Proofs.Ytmgkeeefbfefgaa
end
section
namespace Go.Proofs.Ytmgkeeefbfefgaa
open Go Go.Proofs Go.Eng Go.Run Tab
set_option maxRecDepth 100000
set_option linter.unusedSimpArgs false
set_option linter.unusedVariables false
set_option linter.defProp false
set_option maxHeartbeats 2000000
set_option linter.defProp false
def M23Fs89 := (And.intro (And.intro (And.intro (And.intro @agg106 (And.intro @agg22 @agg25)) (And.intro (And.intro @agg3 @agg58) (And.intro @agg64 @agg83))) (And.intro (And.intro (And.intro @by3 @by58) (And.intro @fo24_2 @fo58_0)) (And.intro (And.intro @fo58_1 @fo99_0) (And.intro @inf106 @inf22)))) (And.intro (And.intro (And.intro @inf25 (And.intro @inf3 @inf58)) (And.intro (And.intro @inf64 @inf83) (And.intro @sz106 @sz22))) (And.intro (And.intro (And.intro @sz25 @sz3) (And.intro @sz58 @sz64)) (And.intro (And.intro @sz83 @zero58) (And.intro @Try.underlying22 @Try.underlying25)))))
abbrev EntI := List (Nat × Value × Nat)
def kvI (a : Nat) : Value := .int .i64 (a : Int)
theorem findNow_ints (a : Nat) : ∀ (es : EntI) (i : Nat), Instr.findNow (.int .i64) (kvI a) (es.map (entM kvI)) i = some (findA a es i)
  | [], i => rfl
  | x :: es, i => by
    have ih := findNow_ints a es (i + 1)
    unfold findA
    rw [List.map_cons, Instr.findNow]
    by_cases hx : a = x.1
    · subst hx
      simp [Instr.sameNow, entM, kvI]
    · have hne : ¬ (a : Int) = (x.1 : Int) := by omega
      have hb : ((a : Int) == (x.1 : Int)) = false := by simpa using hne
      simp only [Instr.sameNow, entM, kvI, hx, hb, if_true, if_false]
      exact ih
theorem keysI : Keys Try.prog 3 kvI where
  find a es W := MapKept.run_findKey Try.underlying3 (findNow_ints a es 0)
  check a em W := check_sc (c := .i) (by kernel_rfl) em 9999 _ W
  stays a W := by simp [Instr.keyThatStays, kvI, Instr.sameBits]
structure ByR (M : Nat) (es : EntI) (by_ : Nat → Option Nat) : Prop where
  nd : (es.map (·.1)).Nodup
  get : ∀ m, getA m es = (by_ m).map fun i : Nat => Value.int .i64 (i : Int)
  lt : ∀ m i, by_ m = some i → m < M
theorem ByR.nil (M : Nat) : ByR M [] (fun _ => none) := ⟨List.nodup_nil, fun m => rfl, fun m i h => by cases h⟩
theorem ByR.give {M m i c : Nat} {es : EntI} {t : MB.St} (B : ByR M es t.by_) (hm : m < M) : ByR M (putA m (.int .i64 (i : Int)) c es) (t.give m i).by_ := by
  refine ⟨put_nodup B.nd, fun x => ?_, fun x j hx => ?_⟩
  · rw [getA_put]
    show _ = (if x = m then some i else t.by_ x).map _
    by_cases e : x = m
    · rw [if_pos e, if_pos e]; rfl
    · rw [if_neg e, if_neg e, B.get]
  · have hx : (if x = m then some i else t.by_ x) = some j := hx
    by_cases e : x = m
    · rw [e]; exact hm
    · rw [if_neg e] at hx; exact B.lt x j hx
def seenL (t : MB.St) (M : Nat) : List Int := (List.range M).map fun m => if t.seen m then 1 else 0
theorem seenL_length {t : MB.St} {M : Nat} : (seenL t M).length = M := by simp [seenL]
theorem seenL_get {t : MB.St} {M m : Nat} (hm : m < M) : (seenL t M).getD m 0 = if t.seen m then 1 else 0 := by
  simp [seenL, List.getD_eq_getElem?_getD, hm]
theorem seenL_mark {t : MB.St} {M m : Nat} (hm : m < M) : (seenL t M).set m 1 = seenL (t.mark m) M := by
  refine List.ext_getElem? fun x => ?_
  rw [List.getElem?_set]
  by_cases hx : x < M
  · simp only [seenL, List.length_map, List.length_range, List.getElem?_map, List.getElem?_range hx, Option.map_some]
    by_cases e : m = x
    · subst e; simp [MB.St.mark, hm]
    · have e2 : ¬ x = m := fun h => e h.symm
      simp [MB.St.mark, e, e2]
  · have h1 : (seenL t M)[x]? = none := List.getElem?_eq_none (by rw [seenL_length]; omega)
    have h2 : (seenL (t.mark m) M)[x]? = none := List.getElem?_eq_none (by rw [seenL_length]; omega)
    rw [h1, h2, if_neg (by omega)]
structure Stat (bS bD bB bK g mbD mb sn S M : Nat) (a : Option Addr) (n c : Nat) (ws : List Wn) (aS : Option Addr) (cS : Nat) (sm : List Nat) (h : Eng.Heap) : Prop where
  row : Row h a (wsV ws)
  rsn : 0 < ws.length → ∀ p, a = some p → p.block ≠ sn
  som : IntsV h aS sm.length (zsN sm)
  ssn : 0 < sm.length → ∀ p, aS = some p → p.block ≠ sn
  smb : 0 < sm.length → ∀ p, aS = some p → p.block ≠ mb
  rmb : 0 < ws.length → ∀ p, a = some p → p.block ≠ mb
  hS : h[bS]? = some (.cells #[.slice aS sm.length cS] 25)
  hD : h[bD]? = some (.cells #[.pointer (some ⟨g, 0, none⟩)] 64)
  hB : h[bB]? = some (.cells #[.map (some mb)] 83)
  hK : h[bK]? = some (.cells #[.func (.func 89) #[] #[.pointer (some ⟨bS, 0, none⟩), .pointer (some ⟨bD, 0, none⟩), .pointer (some ⟨bB, 0, none⟩), .pointer (some ⟨bK, 0, none⟩)]] 106)
  hg : DeskB h g mbD S M a n c
  e1 : bS ≠ mb ∧ bD ≠ mb ∧ bB ≠ mb ∧ bK ≠ mb ∧ g ≠ mb
  e2 : bS ≠ sn ∧ bD ≠ sn ∧ bB ≠ sn ∧ bK ≠ sn ∧ g ≠ sn
  e3 : mb ≠ sn
theorem row_chg2 {h h' : Eng.Heap} {a : Option Addr} {cs : List Value} {b c : Nat} (H : Row h a cs) (x : Chg2 h h' b c) (h1 : 0 < cs.length → ∀ p, a = some p → p.block ≠ b) (h2 : 0 < cs.length → ∀ p, a = some p → p.block ≠ c) : Row h' a cs := by
  by_cases h0 : 0 < cs.length
  case neg => exact .inl (List.length_eq_zero_iff.1 (by omega))
  replace h1 := h1 h0
  replace h2 := h2 h0
  rcases H with H | ⟨g, off, cur, ct, fr, e1, e2, e3, e4⟩
  · exact .inl H
  · exact .inr ⟨g, off, cur, ct, fr, e1, x.get e2 (h1 _ e1) (h2 _ e1), e3, e4⟩
theorem Stat.chg {bS bD bB bK g mbD mb sn S M n c cS : Nat} {a aS : Option Addr} {ws : List Wn} {sm : List Nat} {h h' : Eng.Heap} (H : Stat bS bD bB bK g mbD mb sn S M a n c ws aS cS sm h) (x : Chg2 h h' mb sn) : Stat bS bD bB bK g mbD mb sn S M a n c ws aS cS sm h' :=
  ⟨row_chg2 H.row x (fun h => H.rmb (by rw [wsV_length] at h; omega)) (fun h => H.rsn (by rw [wsV_length] at h; omega)), H.rsn, ⟨H.som.len, row_chg2 H.som.row x (fun h => H.smb (by rw [Eng.ints_length, zsN_length] at h; omega)) (fun h => H.ssn (by rw [Eng.ints_length, zsN_length] at h; omega))⟩, H.ssn, H.smb, H.rmb, x.get H.hS H.e1.1 H.e2.1, x.get H.hD H.e1.2.1 H.e2.2.1, x.get H.hB H.e1.2.2.1 H.e2.2.2.1, x.get H.hK H.e1.2.2.2.1 H.e2.2.2.2.1, x.get H.hg H.e1.2.2.2.2 H.e2.2.2.2.2, H.e1, H.e2, H.e3⟩
structure SeekS (mb sn M : Nat) (t : MB.St) (h : Eng.Heap) : Prop where
  map : ∃ es c, MapV kvI h mb es c ∧ ByR M es t.by_
  seen : h[sn]? = some (.cells (Eng.ints (seenL t M)).toArray 3)
theorem SeekS.ext {mb sn M : Nat} {t : MB.St} {h h' : Eng.Heap} (H : SeekS mb sn M t h) (x : Ext h h') : SeekS mb sn M t h' := by
  obtain ⟨⟨es, c, h1, h2⟩, h3⟩ := H
  exact ⟨⟨es, c, h1.ext x, h2⟩, x.get h3⟩
theorem seek89 (bS bD bB bK g mbD mb sn S M : Nat) (a : Option Addr) (n c : Nat) (ws : List Wn) (aS : Option Addr) (cS : Nat) (sm : List Nat) (hn : n = ws.length) (V : Vb S M ws) (hsm : ∀ i ∈ sm, i < ws.length) (hsl : sm.length ≤ 1000) :
    ∀ (f shop : Nat) (t : MB.St) (h : Eng.Heap), MB.Inv (moN ws) sm t → MB.unseen M t < f → Stat bS bD bB bK g mbD mb sn S M a n c ws aS cS sm h → SeekS mb sn M t h →
    CallsH Try.prog 89 (#[] ++ #[.int .i64 (shop : Nat), .slice (some ⟨sn, 0, none⟩) M M] ++ #[.pointer (some ⟨bS, 0, none⟩), .pointer (some ⟨bD, 0, none⟩), .pointer (some ⟨bB, 0, none⟩), .pointer (some ⟨bK, 0, none⟩)]) h
      (fun v h' => v = .bool (MB.seek (shN ws) (moN ws) sm f shop t).1 ∧ SeekS mb sn M (MB.seek (shN ws) (moN ws) sm f shop t).2 h' ∧ Chg2 h h' mb sn)
  | 0, shop, t, h, _, hu, _, _ => absurd hu (by omega)
  | f + 1, shop, t, h, hI, hu, H, Q => by
    simp only [Array.append_empty, Array.empty_append, List.append_toArray, List.cons_append, List.nil_append]
    have hmo : ∀ i, i ∈ sm → moN ws i < M := fun i hi => (V.m (hsm i hi)).2
    have hV := V.n
    (refine CallsH_of_exec Try.func89 rfl bod89 ?_; simp only [Try.ntmps89, Try.results89, coreS, stK_some, splice, Value.cells, Value.oneCell', Nat.reduceAdd, Nat.reduceSub, Nat.reduceMul, Nat.reduceLeDiff, Int.reduceEq, Nat.reduceEqDiff, M23Fs89])
    have hS0 := H.hS
    simp only [hS0, coreS, Value.cells, Value.oneCell', Nat.reduceAdd, Nat.reduceSub, Nat.reduceMul, Nat.reduceLeDiff, Int.reduceEq, Nat.reduceEqDiff, M23Fs89]
    refine WP_loopI [8, 10, 11, 12, 13, 16, 17, 18, 19, 20, 21, 22, 23, 24, 25, 26, 27, 28, 29, 30, 31, 32, 33, 34, 35, 36, 37, 38, 39, 40, 41, 42, 43, 44, 45, 46, 47, 48, 49, 50, 51, 52, 53, 54, 55, 56, 57, 58, 59, 60, 61, 62, 63, 64, 65, 66, 67, 68, 69, 70, 71] (fun e h' => Chg2 h h' mb sn ∧ ∃ (j : Nat) (t' : MB.St), j ≤ sm.length ∧ e 16 = .int .i64 j ∧ SeekS mb sn M t' h' ∧ MB.Inv (moN ws) sm t' ∧ MB.unseen M t' ≤ f ∧ MB.seekW (shN ws) (moN ws) (MB.seek (shN ws) (moN ws) sm f) shop (sm.drop j) t' = MB.seek (shN ws) (moN ws) sm (f + 1) shop t) (fun e _ => match e 16 with | .int _ q => sm.length - q.toNat | _ => 0) ⟨Chg2.refl _ _ _, 0, t, by omega, rfl, Q, hI, by omega, rfl⟩ ?_
    rintro e h' ⟨ch, j, t', hj, he, Q', hI', hu', heq⟩
    have H' := H.chg ch
    by_cases hjl : j < sm.length
    · have hlt : (j : Int) < (sm.length : Int) := by omega
      obtain ⟨i, hi⟩ : ∃ i, i = sm[j] := ⟨_, rfl⟩
      have him : i ∈ sm := by rw [hi]; exact List.getElem_mem hjl
      have hiw := hsm i him
      have hdr : sm.drop j = i :: sm.drop (j + 1) := by rw [hi]; exact List.drop_eq_getElem_cons hjl
      have hgd : (zsN sm).getD j 0 = (i : Int) := by simp [zsN, List.getD_eq_getElem?_getD, List.getElem?_eq_getElem hjl, hi]
      have cl := H'.som.cell (j := j) (by rw [zsN_length]; exact hjl)
      rw [hgd] at cl
      have sS := H'.som.isSome (by rw [zsN_length]; omega)
      have hs := V.s hiw
      have hm := V.m hiw
      have hcw := rowW H'.row hiw
      rw [hs.1, hm.1] at hcw
      have saw := rowW_some H'.row hiw
      have hgD : h'[g]? = some (.cells #[.int .i64 S, .int .i64 M, .slice a n c, .map (some mbD)] 99) := H'.hg
      rw [hdr] at heq
      simp only [he, hlt, cl, H'.hD, hgD, hcw, decide_true, Int.toNat_natCast, coreS, Value.cells, Value.oneCell', Nat.reduceAdd, Nat.reduceSub, Nat.reduceMul, Nat.reduceLeDiff, Int.reduceEq, Nat.reduceEqDiff, M23Fs89]
      refine ⟨by omega, sS, ⟨by omega, by omega⟩, saw, ?_⟩
      refine stK_abs (c := [.int .i64 0, .int .i64 0]) push_new (by simp) fun h3 g3 u3 => ?_
      simp only [splice, List.take, List.drop, List.nil_append, List.append_nil, List.length_cons, List.length_nil, Nat.zero_add] at g3
      have x3 : Ext h' h3 := u3.ext ((Ext.refl h').push _) (Nat.le_refl _)
      have ch3 := ch.trans (Chg2.of_ext (b := mb) (c := sn) x3)
      have H3 := H.chg ch3
      have Q3 := Q'.ext x3
      clear u3
      have next : ∀ (t2 : MB.St) (h2 : Eng.Heap), Chg2 h h2 mb sn → SeekS mb sn M t2 h2 → MB.Inv (moN ws) sm t2 → MB.unseen M t2 ≤ f → MB.seekW (shN ws) (moN ws) (MB.seek (shN ws) (moN ws) sm f) shop (sm.drop (j + 1)) t2 = MB.seek (shN ws) (moN ws) sm (f + 1) shop t → (Chg2 h h2 mb sn ∧ ∃ (q : Nat) (t' : MB.St), q ≤ sm.length ∧ (Value.int .i64 ((j : Int) + 1)) = .int .i64 (q : Nat) ∧ SeekS mb sn M t' h2 ∧ MB.Inv (moN ws) sm t' ∧ MB.unseen M t' ≤ f ∧ MB.seekW (shN ws) (moN ws) (MB.seek (shN ws) (moN ws) sm f) shop (sm.drop q) t' = MB.seek (shN ws) (moN ws) sm (f + 1) shop t) :=
        fun t2 h2 a1 a2 a3 a4 a5 => ⟨a1, j + 1, t2, by omega, rfl, a2, a3, a4, a5⟩
      have meas : sm.length - ((j : Int) + 1).toNat < sm.length - (j : Int).toNat := by omega
      have hsn := Q3.seen
      by_cases h1 : ((shN ws i : Nat) : Int) = ((shop : Nat) : Int)
      case neg =>
        have h1' : shN ws i ≠ shop ∨ t'.seen (moN ws i) = true := .inl fun e => h1 (by rw [e])
        rw [MB.seekW, if_pos h1'] at heq
        simp only [he, g3, h1, decide_false, Bool.not_false, coreS, Value.cells, Value.oneCell', Nat.reduceAdd, Nat.reduceSub, Nat.reduceMul, Nat.reduceLeDiff, Int.reduceEq, Nat.reduceEqDiff, M23Fs89]
        exact ⟨by rw [inK_i64]; omega, roundK_mk (by kernel_rfl) (next t' h3 ch3 Q3 hI' hu' heq) meas⟩
      have csn : (Eng.ints (seenL t' M))[moN ws i]? = some (.int .i64 (if t'.seen (moN ws i) then 1 else 0)) := by
        rw [Eng.ints_getElem? _ _ (by rw [seenL_length]; exact hm.2), seenL_get hm.2]
      cases hseen : t'.seen (moN ws i) with
      | true =>
        rw [hseen, if_pos rfl] at csn
        rw [MB.seekW, if_pos (.inr hseen)] at heq
        simp only [he, g3, h1, hsn, csn, show (0 : Int) < 1 by omega, decide_true, Bool.not_true, Int.toNat_natCast, eq_self, coreS, Value.cells, Value.oneCell', Nat.reduceAdd, Nat.reduceSub, Nat.reduceMul, Nat.reduceLeDiff, Int.reduceEq, Nat.reduceEqDiff, M23Fs89]
        refine ⟨⟨by omega, by omega⟩, rfl, ?_⟩
        exact ⟨by rw [inK_i64]; omega, roundK_mk (by kernel_rfl) (next t' h3 ch3 Q3 hI' hu' heq) meas⟩
      | false =>
        rw [hseen, if_neg (by simp)] at csn
        have h1' : ¬ (shN ws i ≠ shop ∨ t'.seen (moN ws i) = true) := by
          rintro (h | h)
          · exact h (by omega)
          · rw [hseen] at h; cases h
        rw [MB.seekW, if_neg h1'] at heq
        simp only [he, g3, h1, hsn, csn, show ¬ (0 : Int) < 0 by omega, decide_true, decide_false, Bool.not_true, Int.toNat_natCast, eq_self, coreS, Value.cells, Value.oneCell', Nat.reduceAdd, Nat.reduceSub, Nat.reduceMul, Nat.reduceLeDiff, Int.reduceEq, Nat.reduceEqDiff, M23Fs89]
        refine ⟨⟨by omega, by omega⟩, rfl, ⟨by omega, by omega⟩, rfl, ?_⟩
        refine stK_abs hsn (by rw [Eng.ints_length, seenL_length]; simp; omega) fun h4 g4 u4 => ?_
        rw [ints_put (by rw [seenL_length]; exact hm.2), seenL_mark hm.2] at g4
        have ch4 : Chg2 h h4 mb sn := ch3.updr u4
        have H4 := H.chg ch4
        have hI4 : MB.Inv (moN ws) sm (t'.mark (moN ws i)) := MB.Inv.of_by (t := t') rfl hI'
        have hun := MB.unseen_mark (t := t') hm.2 (by rw [hseen]; simp)
        obtain ⟨es, ce, hM, hB⟩ := Q3.map
        have hM4 : MapV kvI h4 mb es ce := hM.keep (u4.old _ H.e3)
        have hne4 : h'.size ≠ sn := fun e => by
          have := lt_of_get Q'.seen
          omega
        have g34 := u4.get g3 hne4
        have hgb := hB.get (moN ws i)
        have hg4 : h4[g]? = some (.cells #[.int .i64 S, .int .i64 M, .slice a n c, .map (some mbD)] 99) := H4.hg
        simp only [g34, H4.hB, Int.toNat_natCast, coreS, Value.cells, Value.oneCell', Nat.reduceAdd, Nat.reduceSub, Nat.reduceMul, Nat.reduceLeDiff, Int.reduceEq, Nat.reduceEqDiff, M23Fs89]
        refine map_getT Try.underlying83 zero3 keysI hM4 (a := moN ws i) (ok := true) rfl rfl ?_
        have give : ∀ {t2 : MB.St} {h2 h5 : Eng.Heap} {es2 : EntI} {c2 : Nat}, Chg2 h h2 mb sn → ByR M es2 t2.by_ → h2[sn]? = some (.cells (Eng.ints (seenL t2 M)).toArray 3) → MapV kvI h5 mb (putA (moN ws i) (.int .i64 (i : Int)) c2 es2) (clkA (moN ws i) es2 c2) → Upd h2 h5 mb → SeekS mb sn M (t2.give (moN ws i) i) h5 ∧ Chg2 h h5 mb sn := fun a1 a2 a3 a4 a5 =>
          ⟨⟨⟨_, _, a4, a2.give hm.2⟩, (a5.old _ (fun e => H.e3 e.symm)).trans a3⟩, a1.updl a5⟩
        cases hby : t'.by_ (moN ws i) with
        | none =>
          rw [hby] at heq hgb
          dsimp only at heq
          simp only [hgb, Option.map_none, if_true, Option.getD_none, Option.isSome_none, coreS, Value.cells, Value.oneCell', Nat.reduceAdd, Nat.reduceSub, Nat.reduceMul, Nat.reduceLeDiff, Int.reduceEq, Nat.reduceEqDiff, M23Fs89]
          refine WP_tree (by kernel_rfl) sta_eq (.quiet 0 (.quiet 1 (.quiet 2 (.quiet 3 (.quiet 4 (.quiet 5 (.quiet 6 (.quiet 7 (.quiet 8 (.quiet 9 (.quiet 10 (.quiet 11 (.quiet 12 (.quiet 13 (.one 14 (.quiet 15 (.fin))))))))))))))))) (by kernel_rfl) rfl (by kernel_rfl) ?_
          simp only [Bool.not_false, coreS, Value.cells, Value.oneCell', Nat.reduceAdd, Nat.reduceSub, Nat.reduceMul, Nat.reduceLeDiff, Int.reduceEq, Nat.reduceEqDiff, drawS, treeS, M23Fs89]
          refine execT_oneE ?_
          simp only [coreS, Value.cells, Value.oneCell', Nat.reduceAdd, Nat.reduceSub, Nat.reduceMul, Nat.reduceLeDiff, Int.reduceEq, Nat.reduceEqDiff, drawS, treeS, M23Fs89]
          refine execT_finE ?_
          simp only [H4.hB, g34, coreS, Value.cells, Value.oneCell', Nat.reduceAdd, Nat.reduceSub, Nat.reduceMul, Nat.reduceLeDiff, Int.reduceEq, Nat.reduceEqDiff, M23Fs89]
          refine map_putT Try.underlying83 keysI hM4 (a := moN ws i) (v := .int .i64 (i : Int)) rfl rfl rfl fun h5 M5 u5 => ?_
          simp only [coreS, Value.cells, Value.oneCell', Nat.reduceAdd, Nat.reduceSub, Nat.reduceMul, Nat.reduceLeDiff, Int.reduceEq, Nat.reduceEqDiff, M23Fs89]
          obtain ⟨q1, q2⟩ := give (t2 := t'.mark (moN ws i)) ch4 hB g4 M5 u5
          rw [← heq]
          exact ⟨rfl, q1, q2⟩
        | some old =>
          rw [hby] at heq hgb
          dsimp only at heq
          have hold := hI'.ok _ _ hby
          have hol := hsm old hold.1
          have hos := V.s hol
          have fa := faR H4.row hol
          have co := cellW0 H4.row hol
          rw [hos.1] at co
          simp only [hgb, Option.map_some, if_true, Option.getD_some, Option.isSome_some, coreS, Value.cells, Value.oneCell', Nat.reduceAdd, Nat.reduceSub, Nat.reduceMul, Nat.reduceLeDiff, Int.reduceEq, Nat.reduceEqDiff, M23Fs89]
          refine WP_tree (by kernel_rfl) sta_eq (.quiet 0 (.quiet 1 (.quiet 2 (.quiet 3 (.quiet 4 (.quiet 5 (.quiet 6 (.quiet 7 (.quiet 8 (.quiet 9 (.quiet 10 (.quiet 11 (.quiet 12 (.quiet 13 (.one 14 (.quiet 15 (.fin))))))))))))))))) (by kernel_rfl) rfl (by kernel_rfl) ?_
          simp only [Bool.not_true, H4.hD, H4.hK, hg4, fa, co, Int.toNat_natCast, coreS, Value.cells, Value.oneCell', Nat.reduceAdd, Nat.reduceSub, Nat.reduceMul, Nat.reduceLeDiff, Int.reduceEq, Nat.reduceEqDiff, drawS, treeS, M23Fs89]
          refine ⟨⟨by omega, by omega⟩, saw, ?_⟩
          refine execT_oneE ?_
          simp only [coreS, Value.cells, Value.oneCell', Nat.reduceAdd, Nat.reduceSub, Nat.reduceMul, Nat.reduceLeDiff, Int.reduceEq, Nat.reduceEqDiff, drawS, treeS, M23Fs89]
          have P := MB.seek_post (sh := shN ws) hmo f (shN ws old) (t'.mark (moN ws i)) hI4 (by omega)
          refine CallsH.mono (seek89 bS bD bB bK g mbD mb sn S M a n c ws aS cS sm hn V hsm hsl f (shN ws old) (t'.mark (moN ws i)) h4 hI4 (by omega) H4 ⟨⟨es, ce, hM4, hB⟩, g4⟩) ?_
          rintro v h5 ⟨rfl, Q5, ch5⟩
          have ch5' := ch4.trans ch5
          have H5 := H.chg ch5'
          have hne5 : h'.size ≠ mb := fun e => by
            have := lt_of_get hM.obj
            have h1 : h3[mb]? = h'[mb]? := by
              obtain ⟨es0, c0, hM0, _⟩ := Q'.map
              rw [hM.obj]
              have := x3.get hM0.obj
              rw [hM.obj] at this
              rw [hM0.obj]; exact this
            rw [hM.obj] at h1
            have := lt_of_get h1.symm
            omega
          have g35 := ch5.get g34 hne5 hne4
          cases hr : (MB.seek (shN ws) (moN ws) sm f (shN ws old) (t'.mark (moN ws i))).1 with
          | true =>
            rw [hr] at heq
            simp only [if_true] at heq
            refine execT_finE ?_
            simp only [H5.hB, g35, coreS, Value.cells, Value.oneCell', Nat.reduceAdd, Nat.reduceSub, Nat.reduceMul, Nat.reduceLeDiff, Int.reduceEq, Nat.reduceEqDiff, M23Fs89]
            obtain ⟨⟨es5, ce5, hM5, hB5⟩, hsn5⟩ := Q5
            refine map_putT Try.underlying83 keysI hM5 (a := moN ws i) (v := .int .i64 (i : Int)) rfl rfl rfl fun h6 M6 u6 => ?_
            simp only [coreS, Value.cells, Value.oneCell', Nat.reduceAdd, Nat.reduceSub, Nat.reduceMul, Nat.reduceLeDiff, Int.reduceEq, Nat.reduceEqDiff, M23Fs89]
            obtain ⟨q1, q2⟩ := give ch5' hB5 hsn5 M6 u6
            rw [← heq]
            exact ⟨rfl, q1, q2⟩
          | false =>
            rw [hr] at heq
            simp only [Bool.false_eq_true, if_false] at heq
            refine execT_finE ?_
            simp only [he, coreS, Value.cells, Value.oneCell', Nat.reduceAdd, Nat.reduceSub, Nat.reduceMul, Nat.reduceLeDiff, Int.reduceEq, Nat.reduceEqDiff, M23Fs89]
            have hul := MB.unseen_le (M := M) P.up
            exact ⟨by rw [inK_i64]; omega, roundK_mk (by kernel_rfl) (next _ h5 ch5' Q5 P.inv (by omega) heq) meas⟩
    · obtain rfl : j = sm.length := by omega
      have hlt : ¬ ((sm.length : Int) < (sm.length : Int)) := by omega
      rw [List.drop_length] at heq
      simp only [he, hlt, decide_false, coreS, Value.cells, Value.oneCell', Nat.reduceAdd, Nat.reduceSub, Nat.reduceMul, Nat.reduceLeDiff, Int.reduceEq, Nat.reduceEqDiff, M23Fs89]
      rw [← heq]
      exact ⟨rfl, Q', ch⟩
end Go.Proofs.Ytmgkeeefbfefgaa
end
section
namespace Go.Proofs.Ytmgkeeefbfefgaa
open Go Go.Proofs Go.Eng Go.Run Tab
set_option maxRecDepth 100000
set_option linter.unusedSimpArgs false
set_option linter.unusedVariables false
set_option linter.defProp false
set_option maxHeartbeats 1000000
set_option linter.defProp false
def M24Fs61 := (And.intro (And.intro (And.intro (And.intro @agg106 @agg3) (And.intro @agg64 (And.intro @agg83 @by3))) (And.intro (And.intro @fo24_0 @fo24_1) (And.intro @fo99_0 (And.intro @inf106 @inf3)))) (And.intro (And.intro (And.intro @inf64 @inf83) (And.intro @sz106 (And.intro @sz3 @sz64))) (And.intro (And.intro @sz83 @zero106) (And.intro @zero3 (And.intro @zero83 @Try.underlying25)))))
theorem row_block {h : Eng.Heap} {a : Option Addr} {cs : List Value} (H : Row h a cs) (h0 : 0 < cs.length) : ∀ p, a = some p → p.block < h.size := by
  intro p hp
  rcases H with H | ⟨g, off, cur, ct, fr, e1, e2, _⟩
  · rw [H] at h0; simp at h0
  · rw [e1] at hp; cases hp; exact lt_of_get e2
theorem seenL_none {M : Nat} {b : Nat → Option Nat} : Eng.ints (seenL ⟨b, fun _ => false⟩ M) = List.replicate M (.int .i64 0) := by
  refine List.ext_getElem (by simp [Eng.ints, seenL]) fun i h1 h2 => ?_
  simp [Eng.ints, seenL]
theorem match61 (g b S M : Nat) (a : Option Addr) (n c : Nat) (ws : List Wn) (aS : Option Addr) (cS : Nat) (sm : List Nat) (h : Eng.Heap) (hg : DeskB h g b S M a n c) (hr : Row h a (wsV ws)) (hn : n = ws.length) (V : Vb S M ws) (hs : IntsV h aS sm.length (zsN sm)) (hsm : ∀ i ∈ sm, i < ws.length) (hsl : sm.length ≤ 1000) :
    CallsH Try.prog 61 #[.pointer (some ⟨g, 0, none⟩), .slice aS sm.length cS] h (fun v h' => (∃ mb es ce, v = .map (some mb) ∧ h.size ≤ mb ∧ MapV kvI h' mb es ce ∧ ByR M es (MB.mby (shN ws) (moN ws) sm M S)) ∧ Ext h h') := by
  have hgl := lt_of_get (show h[g]? = some (.cells #[.int .i64 S, .int .i64 M, .slice a n c, .map (some b)] 99) from hg)
  have hM1 := V.m1
  have hM2 := V.m2
  have hS1 := V.s1
  have hS2 := V.s2
  (refine CallsH_of_exec Try.func61 rfl bod61 ?_; simp only [Try.ntmps61, Try.results61, coreS, stK_some, splice, Value.cells, Value.oneCell', Nat.reduceAdd, Nat.reduceSub, Nat.reduceMul, Nat.reduceLeDiff, Int.reduceEq, Nat.reduceEqDiff, M24Fs61])
  obtain ⟨H2, hH2⟩ : ∃ H2, H2 = updH ((((h.push (.cells #[.pointer (some ⟨g, 0, none⟩)] 64)).push (.cells #[.slice aS sm.length cS] 25)).push (.map #[] 0)).push (.cells #[.map none] 83)) (h.size + 1 + 1 + 1) [.map (some (h.size + 1 + 1))] 83 := ⟨_, rfl⟩
  have u2 : Upd ((((h.push (.cells #[.pointer (some ⟨g, 0, none⟩)] 64)).push (.cells #[.slice aS sm.length cS] 25)).push (.map #[] 0)).push (.cells #[.map none] 83)) H2 (h.size + 1 + 1 + 1) := by rw [hH2]; exact Upd.updH
  have g3 : H2[h.size + 1 + 1 + 1]? = some (.cells #[.map (some (h.size + 1 + 1))] 83) := by rw [hH2]; exact upd_same (c := [.map (some (h.size + 1 + 1))]) (by simp)
  have hs2 : H2.size = h.size + 4 := by rw [u2.size]; simp
  have g0 : H2[h.size]? = some (.cells #[.pointer (some ⟨g, 0, none⟩)] 64) := u2.get (push_old (push_old (pn0 (h := h)))) (by omega)
  have g1 : H2[h.size + 1]? = some (.cells #[.slice aS sm.length cS] 25) := u2.get (push_old (push_old (pn1 (h := h)))) (by omega)
  have g2 : H2[h.size + 1 + 1]? = some (.map #[] 0) := u2.get (push_old (by rw [Array.getElem?_push, if_pos (by simp)])) (by omega)
  have x2 : Ext h H2 := u2.ext (((((Ext.refl h).push _).push _).push _).push _) (by omega)
  rw [← hH2]
  clear hH2 u2
  simp only [hs2]
  obtain ⟨H3, hH3⟩ : ∃ H3, H3 = H2.push (.cells #[.func (.func 89) #[] #[.pointer (some ⟨h.size + 1, 0, none⟩), .pointer (some ⟨h.size, 0, none⟩), .pointer (some ⟨h.size + 1 + 1 + 1, 0, none⟩), .pointer (some ⟨h.size + 4, 0, none⟩)]] 106) := ⟨_, rfl⟩
  have k4 : H3[h.size + 4]? = some (.cells #[.func (.func 89) #[] #[.pointer (some ⟨h.size + 1, 0, none⟩), .pointer (some ⟨h.size, 0, none⟩), .pointer (some ⟨h.size + 1 + 1 + 1, 0, none⟩), .pointer (some ⟨h.size + 4, 0, none⟩)]] 106) := by rw [hH3, ← hs2]; exact push_new
  have k0 : H3[h.size]? = some (.cells #[.pointer (some ⟨g, 0, none⟩)] 64) := by rw [hH3]; exact push_old g0
  have k1 : H3[h.size + 1]? = some (.cells #[.slice aS sm.length cS] 25) := by rw [hH3]; exact push_old g1
  have k2 : H3[h.size + 1 + 1]? = some (.map #[] 0) := by rw [hH3]; exact push_old g2
  have k3 : H3[h.size + 1 + 1 + 1]? = some (.cells #[.map (some (h.size + 1 + 1))] 83) := by rw [hH3]; exact push_old g3
  have x3 : Ext h H3 := by rw [hH3]; exact x2.push _
  have hs3 : H3.size = h.size + 5 := by rw [hH3]; simp [hs2]
  rw [← hH3]
  have ne0 : ¬ (h.size = h.size + 4) := by omega
  simp only [ne0, if_false, g0]
  clear hH3 g0 g1 g2 g3 x2 hs2
  have hgd : H3[g]? = some (.cells #[.int .i64 S, .int .i64 M, .slice a n c, .map (some b)] 99) := x3.get hg
  simp only [hgd, coreS, Value.cells, Value.oneCell', Nat.reduceAdd, Nat.reduceSub, Nat.reduceMul, Nat.reduceLeDiff, Int.reduceEq, Nat.reduceEqDiff, M24Fs61]
  have hM0 : MapV kvI H3 (h.size + 1 + 1) [] 0 := ⟨by simpa using k2, by simp, by simp⟩
  refine WP_loopI [7, 15, 16, 17, 18, 19, 20, 21, 22, 23, 24, 25, 26, 27] (fun e h' => Ext h h' ∧ (h'[h.size]? = some (.cells #[.pointer (some ⟨g, 0, none⟩)] 64) ∧ h'[h.size + 1]? = some (.cells #[.slice aS sm.length cS] 25) ∧ h'[h.size + 1 + 1 + 1]? = some (.cells #[.map (some (h.size + 1 + 1))] 83) ∧ h'[h.size + 4]? = some (.cells #[.func (.func 89) #[] #[.pointer (some ⟨h.size + 1, 0, none⟩), .pointer (some ⟨h.size, 0, none⟩), .pointer (some ⟨h.size + 1 + 1 + 1, 0, none⟩), .pointer (some ⟨h.size + 4, 0, none⟩)]] 106)) ∧ ∃ k : Nat, k ≤ S ∧ e 15 = .int .i64 k ∧ ∃ es ce, MapV kvI h' (h.size + 1 + 1) es ce ∧ ByR M es (MB.mby (shN ws) (moN ws) sm M k)) (fun e _ => match e 15 with | .int _ q => S - q.toNat | _ => 0) ⟨x3, ⟨k0, k1, k3, k4⟩, 0, by omega, rfl, [], 0, hM0, ByR.nil M⟩ ?_
  clear k0 k1 k2 k3 k4 hgd x3 hM0 hs3
  rintro e h' ⟨x, ⟨k0, k1, k3, k4⟩, k, hk, he, es, ce, hM, hB⟩
  have hgd : h'[g]? = some (.cells #[.int .i64 S, .int .i64 M, .slice a n c, .map (some b)] 99) := x.get hg
  have hmo : ∀ i, i ∈ sm → moN ws i < M := fun i hi => (V.m (hsm i hi)).2
  by_cases hkS : k < S
  · have hlt : (k : Int) < (S : Int) := by omega
    have hl4 := lt_of_get k4
    simp only [he, hlt, decide_true, coreS, Value.cells, Value.oneCell', Nat.reduceAdd, Nat.reduceSub, Nat.reduceMul, Nat.reduceLeDiff, Int.reduceEq, Nat.reduceEqDiff, M24Fs61]
    refine WP_tree (by kernel_rfl) sta_ext (.quiet 0 (.quiet 1 (.quiet 2 (.quiet 3 (.quiet 4 (.quiet 5 (.quiet 6 (.keep 7 (.one 8 (.fin)))))))))) (by kernel_rfl) rfl (by kernel_rfl) ?_
    simp only [k0, k4, hgd, coreS, Value.cells, Value.oneCell', Nat.reduceAdd, Nat.reduceSub, Nat.reduceMul, Nat.reduceLeDiff, Int.reduceEq, Nat.reduceEqDiff, drawS, treeS, M24Fs61]
    refine execT_keep fun hA xA => ?_
    simp only [List.flatten_replicate_singleton, coreS, Value.cells, Value.oneCell', Nat.reduceAdd, Nat.reduceSub, Nat.reduceMul, Nat.reduceLeDiff, Int.reduceEq, Nat.reduceEqDiff, drawS, treeS, M24Fs61]
    repeat (first | refine And.intro (by omega) ?_ | refine And.intro ((Ext.refl _).push _) ?_)
    refine execT_one fun H4 xB => ?_
    simp only [coreS, Value.cells, Value.oneCell', Nat.reduceAdd, Nat.reduceSub, Nat.reduceMul, Nat.reduceLeDiff, Int.reduceEq, Nat.reduceEqDiff, drawS, treeS, M24Fs61]
    have hszA := xA.size
    have x4 : Ext h' H4 := (xA.push _).trans xB
    have hsn : H4[hA.size]? = some (.cells (Eng.ints (seenL ⟨MB.mby (shN ws) (moN ws) sm M k, fun _ => false⟩ M)).toArray 3) := by rw [seenL_none]; exact xB.get push_new
    have y4 := x.trans x4
    have hxs := x.size
    have hbl : ∀ {cs : List Value} {a : Option Addr}, Row h a cs → 0 < cs.length → ∀ p, a = some p → p.block < h.size := fun H h0 => row_block H h0
    have st : Stat (h.size + 1) h.size (h.size + 1 + 1 + 1) (h.size + 4) g b (h.size + 1 + 1) hA.size S M a n c ws aS cS sm H4 :=
      ⟨hr.ext y4, fun h0 p hp => by have := hbl hr (by rw [wsV_length]; omega) p hp; omega, hs.ext y4, fun h0 p hp => by have := hbl hs.row (by rw [Eng.ints_length, zsN_length]; omega) p hp; omega, fun h0 p hp => by have := hbl hs.row (by rw [Eng.ints_length, zsN_length]; omega) p hp; omega, fun h0 p hp => by have := hbl hr (by rw [wsV_length]; omega) p hp; omega,
        x4.get k1, x4.get k0, x4.get k3, x4.get k4, x4.get hgd, ⟨by omega, by omega, by omega, by omega, by omega⟩, ⟨by omega, by omega, by omega, by omega, by omega⟩, by omega⟩
    have MI := MB.match_inv (sh := shN ws) hmo k
    have hun := MB.unseen_all M (MB.mby (shN ws) (moN ws) sm M k)
    refine CallsH.mono (seek89 (h.size + 1) h.size (h.size + 1 + 1 + 1) (h.size + 4) g b (h.size + 1 + 1) hA.size S M a n c ws aS cS sm hn V hsm hsl (M + 1) k ⟨MB.mby (shN ws) (moN ws) sm M k, fun _ => false⟩ H4 MI.inv (by omega) st ⟨⟨es, ce, hM.ext x4, hB⟩, hsn⟩) ?_
    rintro v h5 ⟨rfl, Q5, ch5⟩
    obtain ⟨⟨es5, ce5, hM5, hB5⟩, _⟩ := Q5
    have st5 := st.chg ch5
    have x5 : Ext h h5 := Chg2.ext y4 ch5 (by omega) (by omega)
    refine execT_fin fun h6 x6 => ?_
    simp only [he, coreS, Value.cells, Value.oneCell', Nat.reduceAdd, Nat.reduceSub, Nat.reduceMul, Nat.reduceLeDiff, Int.reduceEq, Nat.reduceEqDiff, M24Fs61]
    refine ⟨by rw [inK_i64]; omega, roundK_mk (by kernel_rfl) ⟨x5.trans x6, ⟨x6.get st5.hD, x6.get st5.hS, x6.get st5.hB, x6.get st5.hK⟩, k + 1, by omega, rfl, es5, ce5, hM5.ext x6, hB5⟩ ?_⟩
    show S - ((k : Int) + 1).toNat < S - (k : Int).toNat
    omega
  · obtain rfl : k = S := by omega
    have hlt : ¬ ((k : Int) < (k : Int)) := by omega
    simp only [he, hlt, k3, decide_false, coreS, Value.cells, Value.oneCell', Nat.reduceAdd, Nat.reduceSub, Nat.reduceMul, Nat.reduceLeDiff, Int.reduceEq, Nat.reduceEqDiff, M24Fs61]
    exact ⟨⟨h.size + 1 + 1, es, ce, rfl, by omega, hM, hB⟩, x⟩
end Go.Proofs.Ytmgkeeefbfefgaa
end
section
namespace Go.Proofs.Ytmgkeeefbfefgaa
open Go Go.Proofs Go.Eng Go.Run Tab
set_option maxRecDepth 100000
set_option linter.unusedSimpArgs false
set_option linter.unusedVariables false
set_option linter.defProp false
set_option maxHeartbeats 1000000
set_option linter.defProp false
def M28Fs25 := (And.intro (And.intro (And.intro (And.intro @agg22 @agg24) (And.intro @agg3 @agg64)) (And.intro (And.intro @by3 @fo24_2) (And.intro @inf22 (And.intro @inf24 @inf3)))) (And.intro (And.intro (And.intro @inf64 @sz22) (And.intro @sz24 (And.intro @sz3 @sz64))) (And.intro (And.intro @zero3 @zero64) (And.intro @Try.underlying22 (And.intro @Try.underlying25 @Try.underlying83)))))
def M28Fs64 := (And.intro (And.intro @agg3 (And.intro @agg64 @inf3)) (And.intro @inf64 (And.intro @sz3 @sz64)))
theorem len_mapT {α : Type} {P : Program} {h : Eng.Heap} {er : Env} {ty : TypeId} {u kt vt : TypeId} {kv : α → Value} (hu : P.underlying u = some (.map kt vt)) {b c : Nat} {es : List (α × Value × Nat)} (M : MapV kv h b es c) {x : Operand} {Q : Value → Eng.Heap → Prop} (hx : ev er x = .map (some b))
    (H : Q (.int .i64 (es.length : Nat)) h) : opSem P (.call ⟨.builtin .len, #[x], #[u]⟩) ty er h Q := by
  refine opSem_pure rfl _ H fun W hW => ?_
  have M1 := M.obj
  rw [← hW] at M1
  have g1 := MapKept.run_getObj_map (P := P) M1
  simp [execOp, resolve, invoke, builtin, Builtin.len_, hx, run_underlying hu, g1, goInt]
theorem getA_some {α : Type} [DecidableEq α] {a : α} {es : List (α × Value × Nat)} : a ∈ es.map (·.1) ↔ (getA a es).isSome = true := by
  induction es with
  | nil => simp [getA]
  | cons x es ih =>
    rw [List.map_cons, List.mem_cons, ih]
    show _ ↔ (if a = x.1 then some x.2.1 else getA a es).isSome = true
    by_cases e : a = x.1
    · simp [e]
    · simp [e]
theorem ByR.size {M : Nat} {es : EntI} {t : MB.St} (B : ByR M es t.by_) : es.length = MB.size M t := by
  unfold MB.size
  rw [show ∀ P : Nat → Bool, MB.cnt P M = ((List.range M).filter P).length from fun _ => rfl, ← List.length_map (f := fun x : Nat × Value × Nat => x.1)]
  refine MB.same_length B.nd (List.Pairwise.filter _ List.nodup_range) fun x => ?_
  rw [getA_some, B.get, List.mem_filter, List.mem_range, Option.isSome_map]
  constructor
  · intro hx
    obtain ⟨i, hi⟩ := Option.isSome_iff_exists.1 hx
    exact ⟨B.lt x i hi, hx⟩
  · exact fun hx => hx.2
theorem append_newT {P : Program} {h : Eng.Heap} {er : Env} {ty : TypeId} {t t2 el e2 : TypeId} {z : Int} (hu : P.underlying t = some (.slice el)) (hu2 : P.underlying t2 = some (.slice e2)) (hi : (P.info? el).isSome = true) (hsz : szT P el = 1) (hby : bytesT P el ≤ 8) (hz : zeroT P el = some (.int .i64 z))
    {x y : Operand} {a b : Option Addr} {len m c : Nat} {xs ys : List Int} {K : Value → Eng.Heap → Prop} (hx : ev er x = .slice a len len) (hy : ev er y = .slice b m c) (O : IntsV h a len xs) (I : IntsV h b m ys) (hm : 0 < m) (hb : len + m ≤ 100000)
    (H : ∀ a' cap' h', OwnI h.size h' el a' (len + m) cap' (xs ++ ys) → Ext h h' → K (.slice a' (len + m) cap') h') : opSem P (.call ⟨.builtin .append, #[x, y], #[t, t2]⟩) ty er h K := by
  obtain ⟨i, hi⟩ := Option.isSome_iff_exists.1 hi
  have hsz : i.size = 1 := by simpa [szT, hi] using hsz
  have hz : i.zero = some (.int .i64 z) := by simpa [zeroT, hi] using hz
  have hby : i.bytes ≤ 8 := by simpa [bytesT, hi] using hby
  unfold opSem
  refine And.intro rfl fun w hw => ?_
  subst hw
  have hlen : (xs ++ ys).length = len + m := by rw [List.length_append, ← O.len, ← I.len]
  have hs := ints_src (P := P) (ats := #[t, t2]) (c := c) rfl hu2 I
  have hargs : #[x, y].map (ev er) = #[.slice a len len, .slice b m c] := by simp [hx, hy]
  have key : ∀ v w', (Builtin.append_ #[t, t2] ty #[.slice a len len, .slice b m c]).run P w = .ok v w' → Eng.Rest w w' → K v w'.heap →
      semPost P w K ((execOp (ev er) { dst := none, op := .call ⟨.builtin .append, #[x, y], #[t, t2]⟩, type := ty, pos := "", after := #[], guard := none }).run P w) := by
    intro v w' h1 h2 h3
    have : (execOp (ev er) { dst := none, op := .call ⟨.builtin .append, #[x, y], #[t, t2]⟩, type := ty, pos := "", after := #[], guard := none }).run P w = .ok (.value v) w' := by
      simp only [execOp, resolve, invoke, builtin, Sem.run_bind, Sem.run_pure, Result.andThen_ok, hargs, h1]
    rw [this]
    exact ⟨h3, h2⟩
  have g1 := Go.Run.ap_grow (P := P) (ty := ty) (ats := #[t, t2]) (z := .int .i64 z) (sLen := len) (sCap := len) (b := a) (olds := Eng.ints xs) rfl hu hi hz w (by rw [hsz]; exact hs)
    (fun w' hw' => by
      have hI := O
      rw [← hw'] at hI
      have := firstC (P := P) (c := len) hI (Nat.le_refl len)
      rw [List.take_of_length_le (by rw [ints_length, ← O.len]; omega)] at this
      rw [hsz]
      exact this) (by omega) (by have : (len + m) * i.bytes ≤ 100000 * 8 := Nat.mul_le_mul hb hby
                                 omega) (by omega)
  have hge := grownCap_ge w (len + m) len el
  refine key _ _ g1 ⟨rfl, rfl, rfl⟩ (H _ _ _ ⟨hlen.symm, .inr ⟨w.heap.size, _, rfl, Nat.le_refl _, push_new, ?_, hge, ?_⟩⟩ ((Ext.refl _).push _))
  · have hzl : (Builtin.zeroCells (Value.int .i64 z).cells (grownCap w (len + m) len el - (len + m))).size = grownCap w (len + m) len el - (len + m) := by
      simp [Builtin.zeroCells, Value.cells]
    simp only [List.size_toArray, List.length_append, ints_length, Array.length_toList, hzl, ← O.len, ← I.len]
    omega
  · rw [List.toList_toArray, List.append_assoc, ← List.append_assoc, List.take_append_of_le_length]
    · rw [List.take_of_length_le]
      · simp [Eng.ints]
      · rw [List.length_append, ints_length, ints_length, ← O.len, ← I.len]; omega
    · rw [List.length_append, ints_length, ints_length, ← O.len, ← I.len]; omega
theorem new25 {h : Eng.Heap} {er : Env} {ty : TypeId} {x y : Operand} {a b : Option Addr} {len m c : Nat} {xs ys : List Int} {K : Value → Eng.Heap → Prop} (hx : ev er x = .slice a len len) (hy : ev er y = .slice b m c) (O : IntsV h a len xs) (I : IntsV h b m ys) (hm : 0 < m) (hb : len + m ≤ 100000)
    (H : ∀ a' cap' h', OwnI h.size h' 3 a' (len + m) cap' (xs ++ ys) → Ext h h' → K (.slice a' (len + m) cap') h') : opSem Try.prog (.call ⟨.builtin .append, #[x, y], #[25, 25]⟩) ty er h K :=
  append_newT Try.underlying25 Try.underlying25 inf3 sz3 (by rw [by3]; decide) zero3 hx hy O I hm hb H
def mxv (S M : Nat) (ws : List Wn) (l : List Nat) : Nat := MB.size M (MB.mst (shN ws) (moN ws) l M S)
def lsG (S M : Nat) (ws : List Wn) (i : Nat) : List Nat × List Nat := MB.lgo (shN ws) (moN ws) (mxv S M ws) ws.length i
def lsN (S M : Nat) (ws : List Wn) : List Nat := (lsG S M ws ws.length).1
theorem mxv_Mx {S M : Nat} {ws : List Wn} (V : Vb S M ws) (l : List Nat) (hl : ∀ i ∈ l, i < ws.length) : MB.Mx (shN ws) (moN ws) l (mxv S M ws l) :=
  MB.match_mx (fun i hi => (V.m (hl i hi)).2) (fun i hi => (V.s (hl i hi)).2)
theorem list1_64 (bi bd g b S M : Nat) (a : Option Addr) (n c : Nat) (ws : List Wn) (i k : Nat) (h : Eng.Heap) (hi : h[bi]? = some (.cells #[.int .i64 i] 3)) (hd : h[bd]? = some (.cells #[.pointer (some ⟨g, 0, none⟩)] 64)) (hg : DeskB h g b S M a n c) (hr : Row h a (wsV ws)) (hn : n = ws.length) (V : Vb S M ws) (hiw : i < ws.length) (hk : k < ws.length) :
    CallsH Try.prog 64 (#[] ++ #[.int .i64 (k : Nat)] ++ #[.pointer (some ⟨bi, 0, none⟩), .pointer (some ⟨bd, 0, none⟩)]) h (fun v h' => v = .bool (decide (k ≤ i) || MB.clash (shN ws) (moN ws) i k) ∧ h' = h) := by
  simp only [Array.append_empty, Array.empty_append, List.append_toArray, List.cons_append, List.nil_append]
  (refine CallsH_of_exec Try.func64 rfl bod64 ?_; simp only [Try.ntmps64, Try.results64, coreS, stK_some, splice, Value.cells, Value.oneCell', Nat.reduceAdd, Nat.reduceSub, Nat.reduceMul, Nat.reduceLeDiff, Int.reduceEq, Nat.reduceEqDiff, M28Fs64])
  by_cases hki : k ≤ i
  · have hle : (k : Int) ≤ (i : Int) := by omega
    simp only [hi, hle, hki, decide_true, Bool.true_or, coreS, Value.cells, Value.oneCell', Nat.reduceAdd, Nat.reduceSub, Nat.reduceMul, Nat.reduceLeDiff, Int.reduceEq, Nat.reduceEqDiff, M28Fs64]
  · have hle : ¬ ((k : Int) ≤ (i : Int)) := by omega
    simp only [hi, hd, hle, hki, decide_false, Bool.false_or, coreS, Value.cells, Value.oneCell', Nat.reduceAdd, Nat.reduceSub, Nat.reduceMul, Nat.reduceLeDiff, Int.reduceEq, Nat.reduceEqDiff, M28Fs64]
    refine CallsH.mono (clash65 g b S M a n c ws i k h hg hr hn V hiw hk) ?_
    rintro v h1 ⟨rfl, rfl⟩
    simp only [coreS, Value.cells, Value.oneCell', Nat.reduceAdd, Nat.reduceSub, Nat.reduceMul, Nat.reduceLeDiff, Int.reduceEq, Nat.reduceEqDiff, M28Fs64]
theorem match61L (g b S M : Nat) (a : Option Addr) (n c : Nat) (ws : List Wn) (aS : Option Addr) (k cS : Nat) (sm : List Nat) (h : Eng.Heap) (hg : DeskB h g b S M a n c) (hr : Row h a (wsV ws)) (hn : n = ws.length) (V : Vb S M ws) (hk : k = sm.length) (hs : IntsV h aS k (zsN sm)) (hsm : ∀ i ∈ sm, i < ws.length) (hsl : k ≤ 1000) :
    CallsH Try.prog 61 #[.pointer (some ⟨g, 0, none⟩), .slice aS k cS] h (fun v h' => (∃ mb es ce, v = .map (some mb) ∧ MapV kvI h' mb es ce ∧ es.length = mxv S M ws sm) ∧ Ext h h') := by
  subst hk
  refine CallsH.mono (match61 g b S M a n c ws aS cS sm h hg hr hn V hs hsm hsl) ?_
  rintro v h1 ⟨⟨mb, es, ce, rfl, _, hM, hB⟩, x1⟩
  exact ⟨⟨mb, es, ce, rfl, hM, ByR.size (t := MB.mst (shN ws) (moN ws) sm M S) hB⟩, x1⟩
theorem rest_zs {sh mo : Nat → Nat} {l : List Nat} {i : Nat} : (zsN l).filter (fun x => !(decide (x ≤ (i : Int)) || MB.clash sh mo i x.toNat)) = zsN (MB.rest sh mo l i) := by
  unfold zsN MB.rest
  rw [List.filter_map]
  congr 1
  refine List.filter_congr fun k _ => ?_
  simp
theorem zsN_has {l : List Nat} {y : Nat} : (zsN l).contains ((y : Nat) : Int) = l.contains y := by
  rw [Bool.eq_iff_iff, List.contains_iff_mem, List.contains_iff_mem, zsN, List.mem_map]
  constructor
  · rintro ⟨k, hk, e⟩
    have : k = y := by omega
    exact this ▸ hk
  · exact fun h => ⟨y, h, rfl⟩
theorem list25 (S M : Int) (a : Option Addr) (n c : Nat) (ws : List Wn) (h : Eng.Heap) (hr : Row h a (wsV ws)) (hn : n = ws.length) (hl : n ≤ 1000000) :
    CallsH Try.prog 25 #[.agg #[.int .i64 S, .int .i64 M, .slice a n c]] h (fun v h' =>
      ((∃ s m : Nat, S = s ∧ M = m ∧ Vb s m ws ∧ ∃ a' c', v = .tuple #[.slice a' (lsN s m ws).length c', .int .i64 0] ∧ OwnI h.size h' 3 a' (lsN s m ws).length c' (zsN (lsN s m ws))) ∨
       (chk S M ws ≠ 0 ∧ v = .tuple #[.slice none 0 0, .int .i64 (chk S M ws)])) ∧ Ext h h') := by
  (refine CallsH_of_exec Try.func25 rfl bod25 ?_; simp only [Try.ntmps25, Try.results25, coreS, stK_some, splice, Value.cells, Value.oneCell', Nat.reduceAdd, Nat.reduceSub, Nat.reduceMul, Nat.reduceLeDiff, Int.reduceEq, Nat.reduceEqDiff, M28Fs25])
  have x0 : Ext h (h.push (.cells #[.int .i64 S, .int .i64 M, .slice a n c] 24)) := (Ext.refl h).push _
  refine CallsH.mono (open49 S M a n c ws _ (hr.ext x0) hn hl) ?_
  rintro v h1 ⟨x1, H⟩
  have y1 := x0.trans x1
  have hb1 := x1.get (push_new (h := h))
  rcases H with ⟨s, m, rfl, rfl, V, g, b, rfl, hg1, hm1, hgs, hbs⟩ | ⟨hc, rfl⟩
  case inr =>
    simp only [List.drop, List.take, splice, hc, decide_false, Bool.not_false, coreS, stK_some, splice, Value.cells, Value.oneCell', Nat.reduceAdd, Nat.reduceSub, Nat.reduceMul, Nat.reduceLeDiff, Int.reduceEq, Nat.reduceEqDiff, M28Fs25]
    exact ⟨.inr hc, y1.push _⟩
  have hV := V.n
  simp only [decide_true, Bool.not_true, coreS, Value.cells, Value.oneCell', Nat.reduceAdd, Nat.reduceSub, Nat.reduceMul, Nat.reduceLeDiff, Int.reduceEq, Nat.reduceEqDiff, M28Fs25]
  refine stK_abs (c := [.pointer none]) (vs := [.pointer (some ⟨g, 0, none⟩)]) push_new (by simp) fun h2 g2 u2 => ?_
  have hs2 : h2.size = h1.size + 1 := by rw [u2.size]; simp
  have y2 : Ext h h2 := u2.ext (y1.push _) (by have := y1.size; omega)
  have hg2 : DeskB h2 g b s m a n c := u2.get (push_old hg1) (by have := lt_of_get hg1; omega)
  have hb2 := u2.get (push_old hb1) (by have := lt_of_get hb1; omega)
  simp only [splice] at g2
  simp only [hb2, List.flatten_replicate_singleton, coreS, Value.cells, Value.oneCell', Nat.reduceAdd, Nat.reduceSub, Nat.reduceMul, Nat.reduceLeDiff, Int.reduceEq, Nat.reduceEqDiff, M28Fs25]
  refine ⟨by omega, by omega, by omega, by omega, ?_⟩
  obtain ⟨ff, hff⟩ : ∃ ff : Nat → List Int, ff = fun i => (List.range n).map fun j : Nat => if j < i then (j : Int) else 0 := ⟨_, rfl⟩
  have ffl : ∀ i, (ff i).length = n := fun i => by rw [hff]; simp
  have ff0 : List.replicate n (Value.int .i64 0) = Eng.ints (ff 0) := by
    rw [hff]; refine List.ext_getElem (by simp [Eng.ints]) fun j h1 h2 => ?_
    simp [Eng.ints]
  have ffn : ff n = zsN (List.range n) := by
    rw [hff]; refine List.ext_getElem (by simp [zsN]) fun j h1 h2 => ?_
    have : j < n := by simpa using h1
    simp [zsN, this]
  have ffs : ∀ i, i < n → (ff i).set i (i : Int) = ff (i + 1) := fun i hi => by
    rw [hff]; refine List.ext_getElem (by simp) fun j h1 h2 => ?_
    have : j < n := by simpa using h1
    rw [List.getElem_set]
    by_cases e : i = j
    · subst e; simp
    · simp only [e, if_false, List.getElem_map, List.getElem_range]
      by_cases h3 : j < i
      · simp [h3, Nat.lt_succ_of_lt h3]
      · rw [if_neg h3, if_neg (by omega)]
  rw [ff0]
  refine WP_loopI [8, 26, 27, 28, 29, 30, 31, 32, 33] (fun e h' => Upd (h2.push (.cells (Eng.ints (ff 0)).toArray 3)) h' h2.size ∧ ∃ i : Nat, i ≤ n ∧ e 26 = .int .i64 i ∧ h'[h2.size]? = some (.cells (Eng.ints (ff i)).toArray 3)) (fun e _ => match e 26 with | .int _ q => n - q.toNat | _ => 0) ⟨⟨rfl, fun _ _ => rfl⟩, 0, by omega, rfl, push_new⟩ ?_
  rintro e h' ⟨u3, i, hi, he, hc3⟩
  by_cases hin : i < n
  · have hlt : (i : Int) < (n : Int) := by omega
    simp only [he, hlt, hc3, decide_true, Int.toNat_natCast, coreS, Value.cells, Value.oneCell', Nat.reduceAdd, Nat.reduceSub, Nat.reduceMul, Nat.reduceLeDiff, Int.reduceEq, Nat.reduceEqDiff, M28Fs25]
    refine ⟨by omega, rfl, ?_⟩
    refine stK_abs (c := Eng.ints (ff i)) (vs := [.int .i64 i]) (off := i) hc3 (by rw [Eng.ints_length, ffl]; simp; omega) fun h4 g4 u4 => ?_
    rw [splice_one _ _ _ (by rw [Eng.ints_length, ffl]; exact hin), Eng.ints_set, ffs i hin] at g4
    simp only [he, coreS, Value.cells, Value.oneCell', Nat.reduceAdd, Nat.reduceSub, Nat.reduceMul, Nat.reduceLeDiff, Int.reduceEq, Nat.reduceEqDiff, M28Fs25]
    refine ⟨by rw [inK_i64]; omega, roundK_mk (by kernel_rfl) ⟨u3.trans u4, i + 1, by omega, rfl, g4⟩ ?_⟩
    show n - ((i : Int) + 1).toNat < n - (i : Int).toNat
    omega
  obtain rfl : i = n := by omega
  rw [ffn] at hc3
  have x3 : Ext h2 h' := u3.ext ((Ext.refl h2).push _) (Nat.le_refl _)
  have y3 := y2.trans x3
  have gd := x3.get g2
  have IL : IntsV h' (some ⟨h2.size, 0, none⟩) i (zsN (List.range i)) := by
    have := IntsV.block (xs := zsN (List.range i)) hc3
    rwa [zsN_length, List.length_range] at this
  simp only [he, gd, show ¬ ((i : Int) < (i : Int)) by omega, decide_false, coreS, Value.cells, Value.oneCell', Nat.reduceAdd, Nat.reduceSub, Nat.reduceMul, Nat.reduceLeDiff, Int.reduceEq, Nat.reduceEqDiff, M28Fs25]
  have gr : ∀ {hh : Eng.Heap}, Ext h' hh → hh[h1.size]? = some (.cells [Value.pointer (some ⟨g, 0, none⟩)].toArray 64) ∧ DeskB hh g b s m a i c ∧ Row hh a (wsV ws) := fun x => ⟨x.get gd, (x3.trans x).get hg2, hr.ext (y3.trans x)⟩
  have hmxl : ∀ l : List Nat, MB.size m (MB.mst (shN ws) (moN ws) l m s) = mxv s m ws l := fun _ => rfl
  refine CallsH.mono (match61L g b s m a i c ws (some ⟨h2.size, 0, none⟩) i i (List.range i) h' (gr (Ext.refl _)).2.1 (gr (Ext.refl _)).2.2 hn V (by simp) IL (fun k hk => by rw [← hn]; exact List.mem_range.1 hk) (by omega)) ?_
  rintro v h4 ⟨⟨mb, es, ce, rfl, hM, hB⟩, x4⟩
  simp only [coreS, Value.cells, Value.oneCell', Nat.reduceAdd, Nat.reduceSub, Nat.reduceMul, Nat.reduceLeDiff, Int.reduceEq, Nat.reduceEqDiff, M28Fs25]
  refine len_mapT Try.underlying83 hM rfl ?_
  have hb4 := x4.get (x3.get hb2)
  rw [hB]
  simp only [hb4, coreS, Value.cells, Value.oneCell', Nat.reduceAdd, Nat.reduceSub, Nat.reduceMul, Nat.reduceLeDiff, Int.reduceEq, Nat.reduceEqDiff, M28Fs25]
  obtain ⟨most, hmost⟩ : ∃ most, most = mxv s m ws (List.range i) := ⟨_, rfl⟩
  rw [← hmost]
  have hlG : ∀ k, lsG s m ws (k + 1) = MB.lstep (shN ws) (moN ws) (mxv s m ws) most (lsG s m ws k) k := fun k => by rw [hmost, hn]; rfl
  have inv : ∀ k, k ≤ ws.length → (∀ x ∈ (lsG s m ws k).2, x < ws.length) ∧ (lsG s m ws k).2.Pairwise (· < ·) ∧ (lsG s m ws k).1.length ≤ k := by
    intro k
    induction k with
    | zero => exact fun _ => ⟨fun x hx => List.mem_range.1 hx, List.pairwise_lt_range, Nat.le_refl _⟩
    | succ k ih =>
      intro hk
      obtain ⟨i1, i2, i3⟩ := ih (by omega)
      rw [hlG, MB.lstep]
      split
      · exact ⟨fun x hx => i1 x (MB.mem_rest.1 hx).1, MB.sorted_rest i2, by simp; omega⟩
      · exact ⟨i1, i2, by omega⟩
  have hl2 : ∀ k, k ≤ ws.length → (lsG s m ws k).2.length ≤ ws.length := fun k hk => by
    obtain ⟨i1, i2, i3⟩ := inv k hk
    have := MB.nodup_le (m := List.range ws.length) (i2.imp fun h => Nat.ne_of_lt h) fun x hx => List.mem_range.2 (i1 x hx)
    simpa using this
  have bs : h.size ≤ h2.size := y2.size
  refine WP_loopI [6, 7, 10, 11, 41, 42, 43, 44, 45, 46, 47, 48, 49, 50, 51, 52, 53, 54, 55, 56, 57, 58, 59, 60, 61, 62, 63, 64, 65, 66, 67, 68, 69, 70, 71, 72, 73] (fun e hh => Ext h' hh ∧ ∃ k : Nat, k ≤ i ∧ e 41 = .int .i64 k ∧ (∃ aO cO, e 6 = .slice aO (lsG s m ws k).1.length cO ∧ OwnI h.size hh 3 aO (lsG s m ws k).1.length cO (zsN (lsG s m ws k).1)) ∧ ∃ aL cL, e 7 = .slice aL (lsG s m ws k).2.length cL ∧ IntsV hh aL (lsG s m ws k).2.length (zsN (lsG s m ws k).2)) (fun e _ => match e 41 with | .int _ q => i - q.toNat | _ => 0) ⟨x4, 0, by omega, rfl, ⟨none, 0, rfl, OwnI.nil _ _ _⟩, some ⟨h2.size, 0, none⟩, i, by simp [lsG, MB.lgo, hn], ?_⟩ ?_
  · have := IL.ext x4
    simpa [lsG, MB.lgo, ← hn] using this
  rintro e5 h5 ⟨x5, k, hk, he5, ⟨aO, cO, heO, OO⟩, aL, cL, heL, LL⟩
  by_cases hki : k < i
  case neg =>
    obtain rfl : k = i := by omega
    simp only [he5, heO, show ¬ ((k : Int) < (k : Int)) by omega, decide_false, coreS, Value.cells, Value.oneCell', Nat.reduceAdd, Nat.reduceSub, Nat.reduceMul, Nat.reduceLeDiff, Int.reduceEq, Nat.reduceEqDiff, M28Fs25]
    have hls : lsN s m ws = (lsG s m ws k).1 := by rw [hn]; rfl
    refine ⟨.inl ⟨s, m, rfl, rfl, V, aO, cO, ?_, ?_⟩, y3.trans x5⟩
    · rw [hls]
    · rw [hls]; exact OO
  have hlt : (k : Int) < (i : Int) := by omega
  obtain ⟨i1, i2, i3⟩ := inv k (by omega)
  have i4 := hl2 k (by omega)
  have hG1 := hlG k
  obtain ⟨ol, hol⟩ : ∃ ol, ol = lsG s m ws k := ⟨_, rfl⟩
  rw [← hol] at i1 i2 i3 i4 heO OO heL LL hG1
  obtain ⟨out, left⟩ := ol
  simp only at i1 i2 i3 i4 heO OO heL LL
  simp only [he5, heL, hlt, decide_true, coreS, Value.cells, Value.oneCell', Nat.reduceAdd, Nat.reduceSub, Nat.reduceMul, Nat.reduceLeDiff, Int.reduceEq, Nat.reduceEqDiff, M28Fs25]
  refine stK_abs (c := [.int .i64 0]) (vs := [.int .i64 k]) push_new (by simp) fun h6 g6 u6 => ?_
  simp only [splice] at g6
  have x6 : Ext h5 h6 := u6.ext ((Ext.refl h5).push _) (Nat.le_refl _)
  simp only [heL, coreS, Value.cells, Value.oneCell', Nat.reduceAdd, Nat.reduceSub, Nat.reduceMul, Nat.reduceLeDiff, Int.reduceEq, Nat.reduceEqDiff, M28Fs25]
  refine CallsH.mono (clone63 aL left.length cL (zsN left) h6 (LL.ext x6) (by omega)) ?_
  rintro v h7 ⟨⟨a7, c7, rfl, O7⟩, x7⟩
  simp only [coreS, Value.cells, Value.oneCell', Nat.reduceAdd, Nat.reduceSub, Nat.reduceMul, Nat.reduceLeDiff, Int.reduceEq, Nat.reduceEqDiff, M28Fs25]
  have x57 := x6.trans x7
  obtain ⟨q1, q2, q3⟩ := gr (x5.trans x57)
  have g7 := x7.get g6
  refine CallsH.mono (deleteFunc62 h6.size left.length c7 a7 (zsN left) 64 #[.pointer (some ⟨h5.size, 0, none⟩), .pointer (some ⟨h1.size, 0, none⟩)] (fun x => decide (x ≤ (k : Int)) || MB.clash (shN ws) (moN ws) k x.toNat) h7 O7 (by omega) ?_) ?_
  · intro x hx hh ⟨k1, k2⟩
    obtain ⟨y, hy, rfl⟩ := List.mem_map.1 hx
    have xx : Ext h6 hh := ⟨Nat.le_trans x7.size k1, fun b hb => (k2 b (Nat.lt_of_lt_of_le hb x7.size) hb).trans (x7.old b hb)⟩
    obtain ⟨p1, p2, p3⟩ := gr (x5.trans (x6.trans xx))
    refine CallsH.mono (list1_64 h5.size h1.size g b s m a i c ws k y hh (xx.get g6) p1 p2 p3 hn V (by omega) (i1 y hy)) ?_
    rintro v h8 ⟨rfl, rfl⟩
    exact ⟨by simp, rfl⟩
  rintro v h8 ⟨⟨k1, k2⟩, a8, c8, rfl, O8⟩
  rw [rest_zs] at O8
  rw [rest_zs]
  have x68 : Ext h6 h8 := ⟨Nat.le_trans x7.size k1, fun b hb => (k2 b (Nat.lt_of_lt_of_le hb x7.size) hb).trans (x7.old b hb)⟩
  have x58 := x6.trans x68
  have g8 := x68.get g6
  rw [zsN_length] at O8
  have meas : i - ((k : Int) + 1).toNat < i - (k : Int).toNat := by omega
  have hrl : (MB.rest (shN ws) (moN ws) left k).length ≤ left.length := List.length_filter_le _ _
  simp only [heL, g8, zsN_length, coreS, Value.cells, Value.oneCell', Nat.reduceAdd, Nat.reduceSub, Nat.reduceMul, Nat.reduceLeDiff, Int.reduceEq, Nat.reduceEqDiff, M28Fs25]
  refine CallsH.mono (contains66 aL left.length cL (zsN left) k h8 (LL.ext x58) (by omega)) ?_
  rintro v h9 ⟨rfl, x9⟩
  have x59 := x58.trans x9
  rw [zsN_has]
  cases hct : left.contains k with
  | false =>
    simp only [he5, heL, heO, coreS, Value.cells, Value.oneCell', Nat.reduceAdd, Nat.reduceSub, Nat.reduceMul, Nat.reduceLeDiff, Int.reduceEq, Nat.reduceEqDiff, M28Fs25]
    have hst : lsG s m ws (k + 1) = (out, left) := by rw [hG1, MB.lstep, if_neg (by simp only [hct]; simp)]
    refine ⟨by rw [inK_i64]; omega, roundK_mk (by kernel_rfl) ⟨x5.trans x59, k + 1, by omega, rfl, ⟨aO, cO, ?_, ?_⟩, aL, cL, ?_, ?_⟩ meas⟩
    · rw [hst]; rfl
    · rw [hst]; exact OO.ext x59
    · rw [hst]; rfl
    · rw [hst]; exact LL.ext x59
  | true =>
    obtain ⟨p1, p2, p3⟩ := gr (x5.trans x59)
    simp only [heO, p1, coreS, Value.cells, Value.oneCell', Nat.reduceAdd, Nat.reduceSub, Nat.reduceMul, Nat.reduceLeDiff, Int.reduceEq, Nat.reduceEqDiff, M28Fs25]
    refine ⟨by rw [inK_i64]; omega, ?_⟩
    refine CallsH.mono (match61L g b s m a i c ws a8 _ c8 (MB.rest (shN ws) (moN ws) left k) h9 p2 p3 hn V rfl (O8.ints.ext x9) (fun x hx => i1 x (MB.mem_rest.1 hx).1) (by omega)) ?_
    rintro v h10 ⟨⟨mb2, es2, ce2, rfl, hM2, hB2⟩, x10⟩
    have x510 := x59.trans x10
    have g10 := x10.get (x9.get g8)
    simp only [coreS, Value.cells, Value.oneCell', Nat.reduceAdd, Nat.reduceSub, Nat.reduceMul, Nat.reduceLeDiff, Int.reduceEq, Nat.reduceEqDiff, M28Fs25]
    refine len_mapT Try.underlying83 hM2 rfl ?_
    rw [hB2]
    have hml : mxv s m ws (MB.rest (shN ws) (moN ws) left k) ≤ 1000 := by
      have := (mxv_Mx V (MB.rest (shN ws) (moN ws) left k) (fun x hx => i1 x (MB.mem_rest.1 hx).1)).some_
      obtain ⟨L, h1, h2, h3⟩ := this
      have hnd : L.Nodup := h1.imp fun h e => h.1 (by rw [e])
      have := MB.nodup_le hnd h2
      omega
    by_cases hq : out.length + 1 + mxv s m ws (MB.rest (shN ws) (moN ws) left k) = most
    case neg =>
      have hqi : ¬ ((out.length : Int) + 1 + (mxv s m ws (MB.rest (shN ws) (moN ws) left k) : Nat) = (most : Nat)) := by omega
      simp only [he5, heL, heO, hqi, decide_false, coreS, Value.cells, Value.oneCell', Nat.reduceAdd, Nat.reduceSub, Nat.reduceMul, Nat.reduceLeDiff, Int.reduceEq, Nat.reduceEqDiff, M28Fs25]
      have hst : lsG s m ws (k + 1) = (out, left) := by rw [hG1, MB.lstep, if_neg (by simp [hq])]
      refine ⟨by rw [inK_i64]; omega, by rw [inK_i64]; omega, roundK_mk (by kernel_rfl) ⟨x5.trans x510, k + 1, by omega, rfl, ⟨aO, cO, ?_, ?_⟩, aL, cL, ?_, ?_⟩ meas⟩
      · rw [hst]; rfl
      · rw [hst]; exact OO.ext x510
      · rw [hst]; rfl
      · rw [hst]; exact LL.ext x510
    have hqi : ((out.length : Int) + 1 + (mxv s m ws (MB.rest (shN ws) (moN ws) left k) : Nat) = (most : Nat)) := by omega
    simp only [he5, heL, heO, hqi, decide_true, coreS, Value.cells, Value.oneCell', Nat.reduceAdd, Nat.reduceSub, Nat.reduceMul, Nat.reduceLeDiff, Int.reduceEq, Nat.reduceEqDiff, M28Fs25]
    refine ⟨by rw [inK_i64]; omega, ?_⟩
    have hst : lsG s m ws (k + 1) = (out ++ [k], MB.rest (shN ws) (moN ws) left k) := by rw [hG1, MB.lstep, if_pos (by simp only [hct, Bool.true_and, beq_iff_eq]; exact hq)]
    refine WP_tree (by kernel_rfl) sta_ext (.quiet 0 (.quiet 1 (.quiet 2 (.quiet 3 (.quiet 4 (.quiet 5 (.quiet 6 (.pure 9 (.keep 7 (.one 8 (.quiet 10 (.quiet 11 (.fin))))))))))))) (by kernel_rfl) rfl (by kernel_rfl) ?_
    simp only [heO, g10, coreS, Value.cells, Value.oneCell', Nat.reduceAdd, Nat.reduceSub, Nat.reduceMul, Nat.reduceLeDiff, Int.reduceEq, Nat.reduceEqDiff, drawS, treeS, M28Fs25]
    have hcO : out.length ≤ cO := by
      rcases OO.ok with ⟨_, q1, q2⟩ | ⟨_, _, _, _, _, _, q4, _⟩ <;> omega
    have hE : eltP aO 0 = aO := by
      rcases OO.ok with ⟨q1, _⟩ | ⟨_, _, q1, _⟩ <;> rw [q1] <;> rfl
    refine ⟨by omega, by omega, by omega, by omega, ?_⟩
    refine execT_keep fun hA xA => ?_
    simp only [List.drop, List.take, coreS, Value.cells, Value.oneCell', Nat.reduceAdd, Nat.reduceSub, Nat.reduceMul, Nat.reduceLeDiff, Int.reduceEq, Nat.reduceEqDiff, drawS, treeS, M28Fs25]
    refine ⟨(Ext.refl _).push _, ?_⟩
    refine execT_one fun hB xB => ?_
    simp only [coreS, Value.cells, Value.oneCell', Nat.reduceAdd, Nat.reduceSub, Nat.reduceMul, Nat.reduceLeDiff, Int.reduceEq, Nat.reduceEqDiff, drawS, treeS, M28Fs25]
    have x5B := ((x510.trans xA).push (.cells #[.int .i64 (k : Int)] 3)).trans xB
    refine new25 (xs := zsN out) (ys := [(k : Int)]) (a := aO) (len := out.length) (m := 1) (c := 1) ?_ rfl (OO.ext x5B).ints ((intsV_one push_new).ext xB) (by omega) (by omega) fun a' c' hC O' xC => ?_
    · refine Eq.trans (b := .slice (if ((out.length : Nat) : Int) = ((0 : Nat) : Int) then aO else eltP aO 0) ((out.length : Int) - ((0 : Nat) : Int)).toNat ((out.length : Int) - ((0 : Nat) : Int)).toNat) (by rfl) ?_
      rw [hE, ite_self]
      simp
    refine execT_fin fun hD xD => ?_
    have x5D := (x5B.trans xC).trans xD
    have ezn : zsN out ++ [(k : Int)] = zsN (out ++ [k]) := by simp [zsN]
    rw [ezn] at O'
    have hll : (out ++ [k]).length = out.length + 1 := by simp
    have hBs : h.size ≤ hB.size := (y3.trans (x5.trans x5B)).size
    simp only [he5, coreS, Value.cells, Value.oneCell', Nat.reduceAdd, Nat.reduceSub, Nat.reduceMul, Nat.reduceLeDiff, Int.reduceEq, Nat.reduceEqDiff, M28Fs25]
    refine ⟨by rw [inK_i64]; omega, roundK_mk (by kernel_rfl) ⟨x5.trans x5D, k + 1, by omega, rfl, ⟨a', c', ?_, ?_⟩, a8, c8, ?_, ?_⟩ meas⟩
    · rw [hst]; show _ = Value.slice a' (out ++ [k]).length c'; rw [hll]; rfl
    · rw [hst]; show OwnI _ _ _ _ (out ++ [k]).length _ _; rw [hll]; exact (O'.mono hBs).ext xD
    · rw [hst]; rfl
    · rw [hst]; exact (((((O8.ints.ext x9).ext x10).ext (xA.trans ((Ext.refl _).push _))).ext xB).ext xC).ext xD
end Go.Proofs.Ytmgkeeefbfefgaa
end
section
namespace Go.Proofs.Ytmgkeeefbfefgaa
open Go Go.Proofs Go.Eng Go.Run Tab
set_option maxRecDepth 100000
set_option linter.unusedSimpArgs false
set_option linter.unusedVariables false
set_option linter.defProp false
set_option maxHeartbeats 1000000
set_option linter.defProp false
structure LsI (ws : List Wn) (st : List Nat × List Nat) : Prop where
  up : st.1.Pairwise (· < ·)
  lt : ∀ x ∈ st.1, x < ws.length
  fr : MB.free (shN ws) (moN ws) st.1
  ll : ∀ y ∈ st.2, y < ws.length
  no : ∀ x ∈ st.1, ∀ y ∈ st.2, x < y ∧ shN ws x ≠ shN ws y ∧ moN ws x ≠ moN ws y
theorem lsG_inv {S M : Nat} {ws : List Wn} : ∀ i, LsI ws (lsG S M ws i)
  | 0 => ⟨List.Pairwise.nil, fun _ h => absurd h List.not_mem_nil, List.Pairwise.nil, fun y hy => List.mem_range.1 hy, fun _ h => absurd h List.not_mem_nil⟩
  | i + 1 => by
    have I := lsG_inv (S := S) (M := M) (ws := ws) i
    have e : lsG S M ws (i + 1) = MB.lstep (shN ws) (moN ws) (mxv S M ws) (mxv S M ws (List.range ws.length)) (lsG S M ws i) i := rfl
    rw [e]
    generalize lsG S M ws i = st at I
    obtain ⟨out, left⟩ := st
    unfold MB.lstep
    split
    · rename_i hc
      simp only [Bool.and_eq_true, List.contains_iff_mem] at hc
      have hi : i ∈ left := hc.1
      obtain ⟨i1, i2, i3, i4, i5⟩ := I
      simp only at i1 i2 i3 i4 i5
      refine ⟨?_, ?_, ?_, ?_, ?_⟩
      · exact List.pairwise_append.2 ⟨i1, List.pairwise_singleton _ _, fun x hx y hy => by rw [List.mem_singleton.1 hy]; exact (i5 x hx i hi).1⟩
      · intro x hx
        rcases List.mem_append.1 hx with hx | hx
        · exact i2 x hx
        · rw [List.mem_singleton.1 hx]; exact i4 i hi
      · exact List.pairwise_append.2 ⟨i3, List.pairwise_singleton _ _, fun x hx y hy => by rw [List.mem_singleton.1 hy]; exact (i5 x hx i hi).2⟩
      · exact fun y hy => i4 y (MB.mem_rest.1 hy).1
      · intro x hx y hy
        obtain ⟨r1, r2⟩ := MB.mem_rest.1 hy
        rcases List.mem_append.1 hx with hx | hx
        · exact i5 x hx y r1
        · rw [List.mem_singleton.1 hx]; exact r2
    · exact I
theorem lsN_length {S M : Nat} {ws : List Wn} (V : Vb S M ws) : (lsN S M ws).length = mxv S M ws (List.range ws.length) := by
  have hmx : ∀ l : List Nat, (∀ i, i ∈ l → i < ws.length) → MB.Mx (shN ws) (moN ws) l (mxv S M ws l) := fun l hl => mxv_Mx V l hl
  unfold lsN lsG
  rw [MB.lgo_pk hmx, MB.pk_length hmx (fun i hi => List.mem_range.1 hi)]
theorem lsN_le {S M : Nat} {ws : List Wn} (V : Vb S M ws) : (lsN S M ws).length ≤ ws.length := by
  have I := lsG_inv (S := S) (M := M) (ws := ws) ws.length
  have := MB.nodup_le (m := List.range ws.length) (I.up.imp fun h => Nat.ne_of_lt h) fun x hx => List.mem_range.2 (I.lt x hx)
  rwa [List.length_range] at this
theorem up_riseP {n : Nat} {l : List Nat} (h : l.Pairwise (· < ·)) (hl : ∀ x ∈ l, x < n) : riseP n (zsN l) (zsN l).length := by
  intro i hi
  rw [zsN_length] at hi
  have e : ∀ j, j < l.length → (zsN l).getD j 0 = ((l.getD j 0 : Nat) : Int) := fun j hj => by
    simp [zsN, List.getD_eq_getElem?_getD, hj]
  have hm : l.getD i 0 ∈ l := by
    rw [List.getD_eq_getElem?_getD, List.getElem?_eq_getElem hi]; exact List.getElem_mem hi
  rw [e i hi]
  refine ⟨by omega, by have := hl _ hm; omega, fun h0 => ?_⟩
  rw [e (i - 1) (by omega)]
  have := List.pairwise_iff_getElem.1 h (i - 1) i (by omega) hi (by omega)
  simp only [List.getD_eq_getElem?_getD, List.getElem?_eq_getElem hi, List.getElem?_eq_getElem (show i - 1 < l.length by omega), Option.getD_some]
  omega
end Go.Proofs.Ytmgkeeefbfefgaa
end
section
namespace Go.Proofs.Ytmgkeeefbfefgaa
open Go Go.Proofs Go.Eng Go.Run Tab
set_option maxRecDepth 100000
set_option linter.unusedSimpArgs false
set_option linter.unusedVariables false
set_option linter.defProp false
set_option maxHeartbeats 2000000
set_option linter.defProp false
structure ShP (S M : Nat) (ws : List Wn) (F : List Nat) : Prop where
  up : F.Pairwise (· < ·)
  lt : ∀ s ∈ F, s < S ∧ 0 < MB.load (shN ws) ws.length s
  n : F.length + (lsN S M ws).length = (MB.wnt (shN ws) ws.length S).length + (MB.wtd (shN ws) (moN ws) ws.length M F).length
end Go.Proofs.Ytmgkeeefbfefgaa
end
section
namespace Go.Proofs.Ytmgkeeefbfefgaa
open Go Go.Proofs Go.Eng Go.Run Tab
set_option maxRecDepth 100000
set_option linter.unusedSimpArgs false
set_option linter.unusedVariables false
set_option linter.defProp false
set_option maxHeartbeats 2000000
set_option linter.defProp false
def M41Fs43 := (And.intro (And.intro (And.intro @agg24 @agg3) (And.intro @by3 @inf24)) (And.intro (And.intro @inf3 @sz24) (And.intro @sz3 @Try.underlying25)))
theorem gd_none {P : Program} {s : Tmp} {w : Bool} {op : Op} {ty : TypeId} {all rest : List Oper} {k : Cont} {dst : Option Tmp} {e : Env} {d : List Deferred} {h : Eng.Heap} : gd P undef s w op ty all rest k dst e d h = execR P all rest k (putE e dst undef) d h := gd_undef
theorem wanting43 (S M : Nat) (a : Option Addr) (n c : Nat) (ws : List Wn) (h : Eng.Heap) (hr : Row h a (wsV ws)) (hn : n = ws.length) (V : Vb S M ws) :
    CallsH Try.prog 43 #[.agg #[.int .i64 S, .int .i64 M, .slice a n c]] h (fun v h' => v = .int .i64 ((MB.wnt (shN ws) ws.length S).length : Nat) ∧ Ext h h') := by
  have hV := V.n
  have v2 := V.s2
  (refine CallsH_of_exec Try.func43 rfl bod43 ?_; simp only [Try.ntmps43, Try.results43, coreS, stK_some, splice, Value.cells, Value.oneCell', Nat.reduceAdd, Nat.reduceSub, Nat.reduceMul, Nat.reduceLeDiff, Int.reduceEq, Nat.reduceEqDiff, M41Fs43])
  have x0 : Ext h (h.push (.cells #[.int .i64 S, .int .i64 M, .slice a n c] 24)) := (Ext.refl h).push _
  refine CallsH.mono (loadsOf51 S M a n c ws _ (hr.ext x0) hn V) ?_
  rintro v h1 ⟨⟨p, q, rfl, _, _, _, hp, hq⟩, x1⟩
  have y1 := x0.trans x1
  have i1 : IntsV h1 (some ⟨p, 0, none⟩) S (ldL (shN ws) S n) := by
    have := IntsV.block (xs := ldL (shN ws) S n) hp
    rwa [ldL_length] at this
  simp only [coreS, Value.cells, Value.oneCell', Nat.reduceAdd, Nat.reduceSub, Nat.reduceMul, Nat.reduceLeDiff, Int.reduceEq, Nat.reduceEqDiff, M41Fs43]
  refine WP_loopI [5, 6, 12, 13, 14, 15, 16, 17, 18, 19, 20, 21, 22, 23, 24] (fun e h' => h' = h1 ∧ ∃ k : Nat, k ≤ S ∧ e 6 = .int .i64 k ∧ e 5 = .int .i64 (MB.cnt (fun s => decide (0 < MB.load (shN ws) n s)) k : Nat)) (fun e _ => match e 6 with | .int _ q => S - q.toNat | _ => 0) ⟨rfl, 0, by omega, rfl, by simp [MB.cnt]⟩ ?_
  rintro e h2 ⟨rfl, k, hk, he, he5⟩
  have hcl : MB.cnt (fun s => decide (0 < MB.load (shN ws) n s)) k ≤ k := MB.cnt_le _ _
  by_cases hks : k < S
  · have hlt : (k : Int) < (S : Int) := by omega
    have meas : S - ((k : Int) + 1).toNat < S - (k : Int).toNat := by omega
    have c1 := i1.cell (j := k) (by rw [ldL_length]; exact hks)
    rw [ldL_get hks, eltP_some, cellH_eq, Nat.zero_add] at c1
    have cs := MB.cnt_succ (fun s => decide (0 < MB.load (shN ws) n s)) k
    by_cases h0 : 0 < MB.load (shN ws) n k
    · have h0i : (0 : Int) < (MB.load (shN ws) n k : Nat) := by omega
      simp only [he, he5, hlt, c1, h0i, decide_true, Int.toNat_natCast, coreS, Value.cells, Value.oneCell', Nat.reduceAdd, Nat.reduceSub, Nat.reduceMul, Nat.reduceLeDiff, Int.reduceEq, Nat.reduceEqDiff, M41Fs43]
      refine ⟨by omega, rfl, by rw [inK_i64]; omega, by rw [inK_i64]; omega, roundK_mk (by kernel_rfl) ⟨rfl, k + 1, by omega, rfl, ?_⟩ meas⟩
      rw [cs, if_pos (by simpa using h0)]; rfl
    · have h0i : ¬ (0 : Int) < (MB.load (shN ws) n k : Nat) := by omega
      simp only [he, he5, hlt, c1, h0i, decide_true, decide_false, Int.toNat_natCast, coreS, Value.cells, Value.oneCell', Nat.reduceAdd, Nat.reduceSub, Nat.reduceMul, Nat.reduceLeDiff, Int.reduceEq, Nat.reduceEqDiff, M41Fs43]
      refine ⟨by omega, rfl, by rw [inK_i64]; omega, roundK_mk (by kernel_rfl) ⟨rfl, k + 1, by omega, rfl, ?_⟩ meas⟩
      rw [cs, if_neg (by simpa using h0)]; rfl
  obtain rfl : k = S := by omega
  simp only [he, he5, show ¬ ((k : Int) < (k : Int)) by omega, decide_false, coreS, Value.cells, Value.oneCell', Nat.reduceAdd, Nat.reduceSub, Nat.reduceMul, Nat.reduceLeDiff, Int.reduceEq, Nat.reduceEqDiff, M41Fs43]
  refine ⟨?_, y1⟩
  rw [hn]; rfl
end Go.Proofs.Ytmgkeeefbfefgaa
end
section
namespace Go.Proofs.Ytmgkeeefbfefgaa
open Go Go.Proofs Go.Eng Go.Run Tab
set_option maxRecDepth 100000
set_option linter.unusedSimpArgs false
set_option linter.unusedVariables false
set_option linter.defProp false
set_option maxHeartbeats 2000000
set_option linter.defProp false
theorem zsN_getD {l : List Nat} {i : Nat} : (zsN l).getD i 0 = ((l.getD i 0 : Nat) : Int) := by
  simp only [zsN, List.getD_eq_getElem?_getD, List.getElem?_map]
  cases l[i]? <;> rfl
end Go.Proofs.Ytmgkeeefbfefgaa
end
