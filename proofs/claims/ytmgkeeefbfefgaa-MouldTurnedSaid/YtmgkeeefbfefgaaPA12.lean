/- Texts joined by pack.py: lemmas for YtmgkeeefbfefgaaApart. No condition. -/
import Derived.Test.YtmgkeeefbfefgaaPA11
import Derived.ProofKit
import Derived.OpenShut
import Derived.Below
import Derived.WideKeyArgs
import Derived.ChangeSlices
set_option linter.unusedSimpArgs false
set_option linter.unusedVariables false
set_option linter.defProp false
section
namespace Go.Proofs.Ytmgkeeefbfefgaa
open Go Go.Proofs Go.Eng Go.Run Tab
set_option maxRecDepth 100000
set_option linter.unusedSimpArgs false
set_option linter.unusedVariables false
set_option linter.defProp false
set_option maxHeartbeats 1000000
set_option linter.defProp false
def M28Fs25 := (And.intro (And.intro (And.intro (And.intro @agg22 @agg24) (And.intro @agg3 @agg64)) (And.intro (And.intro @by3 @fo24_2) (And.intro @inf22 (And.intro @inf24 @inf3)))) (And.intro (And.intro (And.intro @inf64 @sz22) (And.intro @sz24 (And.intro @sz3 @sz64))) (And.intro (And.intro @zero3 @zero64) (And.intro @Try.underlying22 (And.intro @Try.underlying25 @Try.underlying83)))))
def M28Fs64 := (And.intro (And.intro @agg3 (And.intro @agg64 @inf3)) (And.intro @inf64 (And.intro @sz3 @sz64)))
theorem len_mapT {α : Type} {P : Program} {h : Eng.Heap} {er : Env} {ty : TypeId} {u kt vt : TypeId} {kv : α → Value} (hu : P.underlying u = some (.map kt vt)) {b c : Nat} {es : List (α × Value × Nat)} (M : MapV kv h b es c) {x : Operand} {Q : Value → Eng.Heap → Prop} (hx : ev er x = .map (some b))
    (H : Q (.int .i64 (es.length : Nat)) h) : opSem P (.call ⟨.builtin .len, #[x], #[u]⟩) ty er h Q := by
  refine opSem_pure rfl _ H fun W hW => ?_
  have M1 := M.obj
  rw [← hW] at M1
  have g1 := MapKept.run_getObj_map (P := P) M1
  simp [execOp, resolve, invoke, builtin, Builtin.len_, hx, run_underlying hu, g1, goInt]
theorem getA_some {α : Type} [DecidableEq α] {a : α} {es : List (α × Value × Nat)} : a ∈ es.map (·.1) ↔ (getA a es).isSome = true := by
  induction es with
  | nil => simp [getA]
  | cons x es ih =>
    rw [List.map_cons, List.mem_cons, ih]
    show _ ↔ (if a = x.1 then some x.2.1 else getA a es).isSome = true
    by_cases e : a = x.1
    · simp [e]
    · simp [e]
theorem ByR.size {M : Nat} {es : EntI} {t : MB.St} (B : ByR M es t.by_) : es.length = MB.size M t := by
  unfold MB.size
  rw [show ∀ P : Nat → Bool, MB.cnt P M = ((List.range M).filter P).length from fun _ => rfl, ← List.length_map (f := fun x : Nat × Value × Nat => x.1)]
  refine MB.same_length B.nd (List.Pairwise.filter _ List.nodup_range) fun x => ?_
  rw [getA_some, B.get, List.mem_filter, List.mem_range, Option.isSome_map]
  constructor
  · intro hx
    obtain ⟨i, hi⟩ := Option.isSome_iff_exists.1 hx
    exact ⟨B.lt x i hi, hx⟩
  · exact fun hx => hx.2
theorem append_newT {P : Program} {h : Eng.Heap} {er : Env} {ty : TypeId} {t t2 el e2 : TypeId} {z : Int} (hu : P.underlying t = some (.slice el)) (hu2 : P.underlying t2 = some (.slice e2)) (hi : (P.info? el).isSome = true) (hsz : szT P el = 1) (hby : bytesT P el ≤ 8) (hz : zeroT P el = some (.int .i64 z))
    {x y : Operand} {a b : Option Addr} {len m c : Nat} {xs ys : List Int} {K : Value → Eng.Heap → Prop} (hx : ev er x = .slice a len len) (hy : ev er y = .slice b m c) (O : IntsV h a len xs) (I : IntsV h b m ys) (hm : 0 < m) (hb : len + m ≤ 100000)
    (H : ∀ a' cap' h', OwnI h.size h' el a' (len + m) cap' (xs ++ ys) → Ext h h' → K (.slice a' (len + m) cap') h') : opSem P (.call ⟨.builtin .append, #[x, y], #[t, t2]⟩) ty er h K := by
  obtain ⟨i, hi⟩ := Option.isSome_iff_exists.1 hi
  have hsz : i.size = 1 := by simpa [szT, hi] using hsz
  have hz : i.zero = some (.int .i64 z) := by simpa [zeroT, hi] using hz
  have hby : i.bytes ≤ 8 := by simpa [bytesT, hi] using hby
  unfold opSem
  refine And.intro rfl fun w hw => ?_
  subst hw
  have hlen : (xs ++ ys).length = len + m := by rw [List.length_append, ← O.len, ← I.len]
  have hs := ints_src (P := P) (ats := #[t, t2]) (c := c) rfl hu2 I
  have hargs : #[x, y].map (ev er) = #[.slice a len len, .slice b m c] := by simp [hx, hy]
  have key : ∀ v w', (Builtin.append_ #[t, t2] ty #[.slice a len len, .slice b m c]).run P w = .ok v w' → Eng.Rest w w' → K v w'.heap →
      semPost P w K ((execOp (ev er) { dst := none, op := .call ⟨.builtin .append, #[x, y], #[t, t2]⟩, type := ty, pos := "", after := #[], guard := none }).run P w) := by
    intro v w' h1 h2 h3
    have : (execOp (ev er) { dst := none, op := .call ⟨.builtin .append, #[x, y], #[t, t2]⟩, type := ty, pos := "", after := #[], guard := none }).run P w = .ok (.value v) w' := by
      simp only [execOp, resolve, invoke, builtin, Sem.run_bind, Sem.run_pure, Result.andThen_ok, hargs, h1]
    rw [this]
    exact ⟨h3, h2⟩
  have g1 := Go.Run.ap_grow (P := P) (ty := ty) (ats := #[t, t2]) (z := .int .i64 z) (sLen := len) (sCap := len) (b := a) (olds := Eng.ints xs) rfl hu hi hz w (by rw [hsz]; exact hs)
    (fun w' hw' => by
      have hI := O
      rw [← hw'] at hI
      have := firstC (P := P) (c := len) hI (Nat.le_refl len)
      rw [List.take_of_length_le (by rw [ints_length, ← O.len]; omega)] at this
      rw [hsz]
      exact this) (by omega) (by have : (len + m) * i.bytes ≤ 100000 * 8 := Nat.mul_le_mul hb hby
                                 omega) (by omega)
  have hge := grownCap_ge w (len + m) len el
  refine key _ _ g1 ⟨rfl, rfl, rfl⟩ (H _ _ _ ⟨hlen.symm, .inr ⟨w.heap.size, _, rfl, Nat.le_refl _, push_new, ?_, hge, ?_⟩⟩ ((Ext.refl _).push _))
  · have hzl : (Builtin.zeroCells (Value.int .i64 z).cells (grownCap w (len + m) len el - (len + m))).size = grownCap w (len + m) len el - (len + m) := by
      simp [Builtin.zeroCells, Value.cells]
    simp only [List.size_toArray, List.length_append, ints_length, Array.length_toList, hzl, ← O.len, ← I.len]
    omega
  · rw [List.toList_toArray, List.append_assoc, ← List.append_assoc, List.take_append_of_le_length]
    · rw [List.take_of_length_le]
      · simp [Eng.ints]
      · rw [List.length_append, ints_length, ints_length, ← O.len, ← I.len]; omega
    · rw [List.length_append, ints_length, ints_length, ← O.len, ← I.len]; omega
theorem new25 {h : Eng.Heap} {er : Env} {ty : TypeId} {x y : Operand} {a b : Option Addr} {len m c : Nat} {xs ys : List Int} {K : Value → Eng.Heap → Prop} (hx : ev er x = .slice a len len) (hy : ev er y = .slice b m c) (O : IntsV h a len xs) (I : IntsV h b m ys) (hm : 0 < m) (hb : len + m ≤ 100000)
    (H : ∀ a' cap' h', OwnI h.size h' 3 a' (len + m) cap' (xs ++ ys) → Ext h h' → K (.slice a' (len + m) cap') h') : opSem Try.prog (.call ⟨.builtin .append, #[x, y], #[25, 25]⟩) ty er h K :=
  append_newT Try.underlying25 Try.underlying25 inf3 sz3 (by rw [by3]; decide) zero3 hx hy O I hm hb H
def mxv (S M : Nat) (ws : List Wn) (l : List Nat) : Nat := MB.size M (MB.mst (shN ws) (moN ws) l M S)
def lsG (S M : Nat) (ws : List Wn) (i : Nat) : List Nat × List Nat := MB.lgo (shN ws) (moN ws) (mxv S M ws) ws.length i
def lsN (S M : Nat) (ws : List Wn) : List Nat := (lsG S M ws ws.length).1
theorem mxv_Mx {S M : Nat} {ws : List Wn} (V : Vb S M ws) (l : List Nat) (hl : ∀ i ∈ l, i < ws.length) : MB.Mx (shN ws) (moN ws) l (mxv S M ws l) :=
  MB.match_mx (fun i hi => (V.m (hl i hi)).2) (fun i hi => (V.s (hl i hi)).2)
theorem list1_64 (bi bd g b S M : Nat) (a : Option Addr) (n c : Nat) (ws : List Wn) (i k : Nat) (h : Eng.Heap) (hi : h[bi]? = some (.cells #[.int .i64 i] 3)) (hd : h[bd]? = some (.cells #[.pointer (some ⟨g, 0, none⟩)] 64)) (hg : DeskB h g b S M a n c) (hr : Row h a (wsV ws)) (hn : n = ws.length) (V : Vb S M ws) (hiw : i < ws.length) (hk : k < ws.length) :
    CallsH Try.prog 64 (#[] ++ #[.int .i64 (k : Nat)] ++ #[.pointer (some ⟨bi, 0, none⟩), .pointer (some ⟨bd, 0, none⟩)]) h (fun v h' => v = .bool (decide (k ≤ i) || MB.clash (shN ws) (moN ws) i k) ∧ h' = h) := by
  simp only [Array.append_empty, Array.empty_append, List.append_toArray, List.cons_append, List.nil_append]
  (refine CallsH_of_exec Try.func64 rfl bod64 ?_; simp only [Try.ntmps64, Try.results64, coreS, stK_some, splice, Value.cells, Value.oneCell', Nat.reduceAdd, Nat.reduceSub, Nat.reduceMul, Nat.reduceLeDiff, Int.reduceEq, Nat.reduceEqDiff, M28Fs64])
  by_cases hki : k ≤ i
  · have hle : (k : Int) ≤ (i : Int) := by omega
    simp only [hi, hle, hki, decide_true, Bool.true_or, coreS, Value.cells, Value.oneCell', Nat.reduceAdd, Nat.reduceSub, Nat.reduceMul, Nat.reduceLeDiff, Int.reduceEq, Nat.reduceEqDiff, M28Fs64]
  · have hle : ¬ ((k : Int) ≤ (i : Int)) := by omega
    simp only [hi, hd, hle, hki, decide_false, Bool.false_or, coreS, Value.cells, Value.oneCell', Nat.reduceAdd, Nat.reduceSub, Nat.reduceMul, Nat.reduceLeDiff, Int.reduceEq, Nat.reduceEqDiff, M28Fs64]
    refine CallsH.mono (clash65 g b S M a n c ws i k h hg hr hn V hiw hk) ?_
    rintro v h1 ⟨rfl, rfl⟩
    simp only [coreS, Value.cells, Value.oneCell', Nat.reduceAdd, Nat.reduceSub, Nat.reduceMul, Nat.reduceLeDiff, Int.reduceEq, Nat.reduceEqDiff, M28Fs64]
theorem match61L (g b S M : Nat) (a : Option Addr) (n c : Nat) (ws : List Wn) (aS : Option Addr) (k cS : Nat) (sm : List Nat) (h : Eng.Heap) (hg : DeskB h g b S M a n c) (hr : Row h a (wsV ws)) (hn : n = ws.length) (V : Vb S M ws) (hk : k = sm.length) (hs : IntsV h aS k (zsN sm)) (hsm : ∀ i ∈ sm, i < ws.length) (hsl : k ≤ 1000) :
    CallsH Try.prog 61 #[.pointer (some ⟨g, 0, none⟩), .slice aS k cS] h (fun v h' => (∃ mb es ce, v = .map (some mb) ∧ MapV kvI h' mb es ce ∧ es.length = mxv S M ws sm) ∧ Ext h h') := by
  subst hk
  refine CallsH.mono (match61 g b S M a n c ws aS cS sm h hg hr hn V hs hsm hsl) ?_
  rintro v h1 ⟨⟨mb, es, ce, rfl, _, hM, hB⟩, x1⟩
  exact ⟨⟨mb, es, ce, rfl, hM, ByR.size (t := MB.mst (shN ws) (moN ws) sm M S) hB⟩, x1⟩
theorem rest_zs {sh mo : Nat → Nat} {l : List Nat} {i : Nat} : (zsN l).filter (fun x => !(decide (x ≤ (i : Int)) || MB.clash sh mo i x.toNat)) = zsN (MB.rest sh mo l i) := by
  unfold zsN MB.rest
  rw [List.filter_map]
  congr 1
  refine List.filter_congr fun k _ => ?_
  simp
theorem zsN_has {l : List Nat} {y : Nat} : (zsN l).contains ((y : Nat) : Int) = l.contains y := by
  rw [Bool.eq_iff_iff, List.contains_iff_mem, List.contains_iff_mem, zsN, List.mem_map]
  constructor
  · rintro ⟨k, hk, e⟩
    have : k = y := by omega
    exact this ▸ hk
  · exact fun h => ⟨y, h, rfl⟩
theorem list25 (S M : Int) (a : Option Addr) (n c : Nat) (ws : List Wn) (h : Eng.Heap) (hr : Row h a (wsV ws)) (hn : n = ws.length) (hl : n ≤ 1000000) :
    CallsH Try.prog 25 #[.agg #[.int .i64 S, .int .i64 M, .slice a n c]] h (fun v h' =>
      ((∃ s m : Nat, S = s ∧ M = m ∧ Vb s m ws ∧ ∃ a' c', v = .tuple #[.slice a' (lsN s m ws).length c', .int .i64 0] ∧ OwnI h.size h' 3 a' (lsN s m ws).length c' (zsN (lsN s m ws))) ∨
       (chk S M ws ≠ 0 ∧ v = .tuple #[.slice none 0 0, .int .i64 (chk S M ws)])) ∧ Ext h h') := by
  (refine CallsH_of_exec Try.func25 rfl bod25 ?_; simp only [Try.ntmps25, Try.results25, coreS, stK_some, splice, Value.cells, Value.oneCell', Nat.reduceAdd, Nat.reduceSub, Nat.reduceMul, Nat.reduceLeDiff, Int.reduceEq, Nat.reduceEqDiff, M28Fs25])
  have x0 : Ext h (h.push (.cells #[.int .i64 S, .int .i64 M, .slice a n c] 24)) := (Ext.refl h).push _
  refine CallsH.mono (open49 S M a n c ws _ (hr.ext x0) hn hl) ?_
  rintro v h1 ⟨x1, H⟩
  have y1 := x0.trans x1
  have hb1 := x1.get (push_new (h := h))
  rcases H with ⟨s, m, rfl, rfl, V, g, b, rfl, hg1, hm1, hgs, hbs⟩ | ⟨hc, rfl⟩
  case inr =>
    simp only [List.drop, List.take, splice, hc, decide_false, Bool.not_false, coreS, stK_some, splice, Value.cells, Value.oneCell', Nat.reduceAdd, Nat.reduceSub, Nat.reduceMul, Nat.reduceLeDiff, Int.reduceEq, Nat.reduceEqDiff, M28Fs25]
    exact ⟨.inr hc, y1.push _⟩
  have hV := V.n
  simp only [decide_true, Bool.not_true, coreS, Value.cells, Value.oneCell', Nat.reduceAdd, Nat.reduceSub, Nat.reduceMul, Nat.reduceLeDiff, Int.reduceEq, Nat.reduceEqDiff, M28Fs25]
  refine stK_abs (c := [.pointer none]) (vs := [.pointer (some ⟨g, 0, none⟩)]) push_new (by simp) fun h2 g2 u2 => ?_
  have hs2 : h2.size = h1.size + 1 := by rw [u2.size]; simp
  have y2 : Ext h h2 := u2.ext (y1.push _) (by have := y1.size; omega)
  have hg2 : DeskB h2 g b s m a n c := u2.get (push_old hg1) (by have := lt_of_get hg1; omega)
  have hb2 := u2.get (push_old hb1) (by have := lt_of_get hb1; omega)
  simp only [splice] at g2
  simp only [hb2, List.flatten_replicate_singleton, coreS, Value.cells, Value.oneCell', Nat.reduceAdd, Nat.reduceSub, Nat.reduceMul, Nat.reduceLeDiff, Int.reduceEq, Nat.reduceEqDiff, M28Fs25]
  refine ⟨by omega, by omega, by omega, by omega, ?_⟩
  obtain ⟨ff, hff⟩ : ∃ ff : Nat → List Int, ff = fun i => (List.range n).map fun j : Nat => if j < i then (j : Int) else 0 := ⟨_, rfl⟩
  have ffl : ∀ i, (ff i).length = n := fun i => by rw [hff]; simp
  have ff0 : List.replicate n (Value.int .i64 0) = Eng.ints (ff 0) := by
    rw [hff]; refine List.ext_getElem (by simp [Eng.ints]) fun j h1 h2 => ?_
    simp [Eng.ints]
  have ffn : ff n = zsN (List.range n) := by
    rw [hff]; refine List.ext_getElem (by simp [zsN]) fun j h1 h2 => ?_
    have : j < n := by simpa using h1
    simp [zsN, this]
  have ffs : ∀ i, i < n → (ff i).set i (i : Int) = ff (i + 1) := fun i hi => by
    rw [hff]; refine List.ext_getElem (by simp) fun j h1 h2 => ?_
    have : j < n := by simpa using h1
    rw [List.getElem_set]
    by_cases e : i = j
    · subst e; simp
    · simp only [e, if_false, List.getElem_map, List.getElem_range]
      by_cases h3 : j < i
      · simp [h3, Nat.lt_succ_of_lt h3]
      · rw [if_neg h3, if_neg (by omega)]
  rw [ff0]
  refine WP_loopI [8, 26, 27, 28, 29, 30, 31, 32, 33] (fun e h' => Upd (h2.push (.cells (Eng.ints (ff 0)).toArray 3)) h' h2.size ∧ ∃ i : Nat, i ≤ n ∧ e 26 = .int .i64 i ∧ h'[h2.size]? = some (.cells (Eng.ints (ff i)).toArray 3)) (fun e _ => match e 26 with | .int _ q => n - q.toNat | _ => 0) ⟨⟨rfl, fun _ _ => rfl⟩, 0, by omega, rfl, push_new⟩ ?_
  rintro e h' ⟨u3, i, hi, he, hc3⟩
  by_cases hin : i < n
  · have hlt : (i : Int) < (n : Int) := by omega
    simp only [he, hlt, hc3, decide_true, Int.toNat_natCast, coreS, Value.cells, Value.oneCell', Nat.reduceAdd, Nat.reduceSub, Nat.reduceMul, Nat.reduceLeDiff, Int.reduceEq, Nat.reduceEqDiff, M28Fs25]
    refine ⟨by omega, rfl, ?_⟩
    refine stK_abs (c := Eng.ints (ff i)) (vs := [.int .i64 i]) (off := i) hc3 (by rw [Eng.ints_length, ffl]; simp; omega) fun h4 g4 u4 => ?_
    rw [splice_one _ _ _ (by rw [Eng.ints_length, ffl]; exact hin), Eng.ints_set, ffs i hin] at g4
    simp only [he, coreS, Value.cells, Value.oneCell', Nat.reduceAdd, Nat.reduceSub, Nat.reduceMul, Nat.reduceLeDiff, Int.reduceEq, Nat.reduceEqDiff, M28Fs25]
    refine ⟨by rw [inK_i64]; omega, roundK_mk (by kernel_rfl) ⟨u3.trans u4, i + 1, by omega, rfl, g4⟩ ?_⟩
    show n - ((i : Int) + 1).toNat < n - (i : Int).toNat
    omega
  obtain rfl : i = n := by omega
  rw [ffn] at hc3
  have x3 : Ext h2 h' := u3.ext ((Ext.refl h2).push _) (Nat.le_refl _)
  have y3 := y2.trans x3
  have gd := x3.get g2
  have IL : IntsV h' (some ⟨h2.size, 0, none⟩) i (zsN (List.range i)) := by
    have := IntsV.block (xs := zsN (List.range i)) hc3
    rwa [zsN_length, List.length_range] at this
  simp only [he, gd, show ¬ ((i : Int) < (i : Int)) by omega, decide_false, coreS, Value.cells, Value.oneCell', Nat.reduceAdd, Nat.reduceSub, Nat.reduceMul, Nat.reduceLeDiff, Int.reduceEq, Nat.reduceEqDiff, M28Fs25]
  have gr : ∀ {hh : Eng.Heap}, Ext h' hh → hh[h1.size]? = some (.cells [Value.pointer (some ⟨g, 0, none⟩)].toArray 64) ∧ DeskB hh g b s m a i c ∧ Row hh a (wsV ws) := fun x => ⟨x.get gd, (x3.trans x).get hg2, hr.ext (y3.trans x)⟩
  have hmxl : ∀ l : List Nat, MB.size m (MB.mst (shN ws) (moN ws) l m s) = mxv s m ws l := fun _ => rfl
  refine CallsH.mono (match61L g b s m a i c ws (some ⟨h2.size, 0, none⟩) i i (List.range i) h' (gr (Ext.refl _)).2.1 (gr (Ext.refl _)).2.2 hn V (by simp) IL (fun k hk => by rw [← hn]; exact List.mem_range.1 hk) (by omega)) ?_
  rintro v h4 ⟨⟨mb, es, ce, rfl, hM, hB⟩, x4⟩
  simp only [coreS, Value.cells, Value.oneCell', Nat.reduceAdd, Nat.reduceSub, Nat.reduceMul, Nat.reduceLeDiff, Int.reduceEq, Nat.reduceEqDiff, M28Fs25]
  refine len_mapT Try.underlying83 hM rfl ?_
  have hb4 := x4.get (x3.get hb2)
  rw [hB]
  simp only [hb4, coreS, Value.cells, Value.oneCell', Nat.reduceAdd, Nat.reduceSub, Nat.reduceMul, Nat.reduceLeDiff, Int.reduceEq, Nat.reduceEqDiff, M28Fs25]
  obtain ⟨most, hmost⟩ : ∃ most, most = mxv s m ws (List.range i) := ⟨_, rfl⟩
  rw [← hmost]
  have hlG : ∀ k, lsG s m ws (k + 1) = MB.lstep (shN ws) (moN ws) (mxv s m ws) most (lsG s m ws k) k := fun k => by rw [hmost, hn]; rfl
  have inv : ∀ k, k ≤ ws.length → (∀ x ∈ (lsG s m ws k).2, x < ws.length) ∧ (lsG s m ws k).2.Pairwise (· < ·) ∧ (lsG s m ws k).1.length ≤ k := by
    intro k
    induction k with
    | zero => exact fun _ => ⟨fun x hx => List.mem_range.1 hx, List.pairwise_lt_range, Nat.le_refl _⟩
    | succ k ih =>
      intro hk
      obtain ⟨i1, i2, i3⟩ := ih (by omega)
      rw [hlG, MB.lstep]
      split
      · exact ⟨fun x hx => i1 x (MB.mem_rest.1 hx).1, MB.sorted_rest i2, by simp; omega⟩
      · exact ⟨i1, i2, by omega⟩
  have hl2 : ∀ k, k ≤ ws.length → (lsG s m ws k).2.length ≤ ws.length := fun k hk => by
    obtain ⟨i1, i2, i3⟩ := inv k hk
    have := MB.nodup_le (m := List.range ws.length) (i2.imp fun h => Nat.ne_of_lt h) fun x hx => List.mem_range.2 (i1 x hx)
    simpa using this
  have bs : h.size ≤ h2.size := y2.size
  refine WP_loopI [6, 7, 10, 11, 41, 42, 43, 44, 45, 46, 47, 48, 49, 50, 51, 52, 53, 54, 55, 56, 57, 58, 59, 60, 61, 62, 63, 64, 65, 66, 67, 68, 69, 70, 71, 72, 73] (fun e hh => Ext h' hh ∧ ∃ k : Nat, k ≤ i ∧ e 41 = .int .i64 k ∧ (∃ aO cO, e 6 = .slice aO (lsG s m ws k).1.length cO ∧ OwnI h.size hh 3 aO (lsG s m ws k).1.length cO (zsN (lsG s m ws k).1)) ∧ ∃ aL cL, e 7 = .slice aL (lsG s m ws k).2.length cL ∧ IntsV hh aL (lsG s m ws k).2.length (zsN (lsG s m ws k).2)) (fun e _ => match e 41 with | .int _ q => i - q.toNat | _ => 0) ⟨x4, 0, by omega, rfl, ⟨none, 0, rfl, OwnI.nil _ _ _⟩, some ⟨h2.size, 0, none⟩, i, by simp [lsG, MB.lgo, hn], ?_⟩ ?_
  · have := IL.ext x4
    simpa [lsG, MB.lgo, ← hn] using this
  rintro e5 h5 ⟨x5, k, hk, he5, ⟨aO, cO, heO, OO⟩, aL, cL, heL, LL⟩
  by_cases hki : k < i
  case neg =>
    obtain rfl : k = i := by omega
    simp only [he5, heO, show ¬ ((k : Int) < (k : Int)) by omega, decide_false, coreS, Value.cells, Value.oneCell', Nat.reduceAdd, Nat.reduceSub, Nat.reduceMul, Nat.reduceLeDiff, Int.reduceEq, Nat.reduceEqDiff, M28Fs25]
    have hls : lsN s m ws = (lsG s m ws k).1 := by rw [hn]; rfl
    refine ⟨.inl ⟨s, m, rfl, rfl, V, aO, cO, ?_, ?_⟩, y3.trans x5⟩
    · rw [hls]
    · rw [hls]; exact OO
  have hlt : (k : Int) < (i : Int) := by omega
  obtain ⟨i1, i2, i3⟩ := inv k (by omega)
  have i4 := hl2 k (by omega)
  have hG1 := hlG k
  obtain ⟨ol, hol⟩ : ∃ ol, ol = lsG s m ws k := ⟨_, rfl⟩
  rw [← hol] at i1 i2 i3 i4 heO OO heL LL hG1
  obtain ⟨out, left⟩ := ol
  simp only at i1 i2 i3 i4 heO OO heL LL
  simp only [he5, heL, hlt, decide_true, coreS, Value.cells, Value.oneCell', Nat.reduceAdd, Nat.reduceSub, Nat.reduceMul, Nat.reduceLeDiff, Int.reduceEq, Nat.reduceEqDiff, M28Fs25]
  refine stK_abs (c := [.int .i64 0]) (vs := [.int .i64 k]) push_new (by simp) fun h6 g6 u6 => ?_
  simp only [splice] at g6
  have x6 : Ext h5 h6 := u6.ext ((Ext.refl h5).push _) (Nat.le_refl _)
  simp only [heL, coreS, Value.cells, Value.oneCell', Nat.reduceAdd, Nat.reduceSub, Nat.reduceMul, Nat.reduceLeDiff, Int.reduceEq, Nat.reduceEqDiff, M28Fs25]
  refine CallsH.mono (clone63 aL left.length cL (zsN left) h6 (LL.ext x6) (by omega)) ?_
  rintro v h7 ⟨⟨a7, c7, rfl, O7⟩, x7⟩
  simp only [coreS, Value.cells, Value.oneCell', Nat.reduceAdd, Nat.reduceSub, Nat.reduceMul, Nat.reduceLeDiff, Int.reduceEq, Nat.reduceEqDiff, M28Fs25]
  have x57 := x6.trans x7
  obtain ⟨q1, q2, q3⟩ := gr (x5.trans x57)
  have g7 := x7.get g6
  refine CallsH.mono (deleteFunc62 h6.size left.length c7 a7 (zsN left) 64 #[.pointer (some ⟨h5.size, 0, none⟩), .pointer (some ⟨h1.size, 0, none⟩)] (fun x => decide (x ≤ (k : Int)) || MB.clash (shN ws) (moN ws) k x.toNat) h7 O7 (by omega) ?_) ?_
  · intro x hx hh ⟨k1, k2⟩
    obtain ⟨y, hy, rfl⟩ := List.mem_map.1 hx
    have xx : Ext h6 hh := ⟨Nat.le_trans x7.size k1, fun b hb => (k2 b (Nat.lt_of_lt_of_le hb x7.size) hb).trans (x7.old b hb)⟩
    obtain ⟨p1, p2, p3⟩ := gr (x5.trans (x6.trans xx))
    refine CallsH.mono (list1_64 h5.size h1.size g b s m a i c ws k y hh (xx.get g6) p1 p2 p3 hn V (by omega) (i1 y hy)) ?_
    rintro v h8 ⟨rfl, rfl⟩
    exact ⟨by simp, rfl⟩
  rintro v h8 ⟨⟨k1, k2⟩, a8, c8, rfl, O8⟩
  rw [rest_zs] at O8
  rw [rest_zs]
  have x68 : Ext h6 h8 := ⟨Nat.le_trans x7.size k1, fun b hb => (k2 b (Nat.lt_of_lt_of_le hb x7.size) hb).trans (x7.old b hb)⟩
  have x58 := x6.trans x68
  have g8 := x68.get g6
  rw [zsN_length] at O8
  have meas : i - ((k : Int) + 1).toNat < i - (k : Int).toNat := by omega
  have hrl : (MB.rest (shN ws) (moN ws) left k).length ≤ left.length := List.length_filter_le _ _
  simp only [heL, g8, zsN_length, coreS, Value.cells, Value.oneCell', Nat.reduceAdd, Nat.reduceSub, Nat.reduceMul, Nat.reduceLeDiff, Int.reduceEq, Nat.reduceEqDiff, M28Fs25]
  refine CallsH.mono (contains66 aL left.length cL (zsN left) k h8 (LL.ext x58) (by omega)) ?_
  rintro v h9 ⟨rfl, x9⟩
  have x59 := x58.trans x9
  rw [zsN_has]
  cases hct : left.contains k with
  | false =>
    simp only [he5, heL, heO, coreS, Value.cells, Value.oneCell', Nat.reduceAdd, Nat.reduceSub, Nat.reduceMul, Nat.reduceLeDiff, Int.reduceEq, Nat.reduceEqDiff, M28Fs25]
    have hst : lsG s m ws (k + 1) = (out, left) := by rw [hG1, MB.lstep, if_neg (by simp only [hct]; simp)]
    refine ⟨by rw [inK_i64]; omega, roundK_mk (by kernel_rfl) ⟨x5.trans x59, k + 1, by omega, rfl, ⟨aO, cO, ?_, ?_⟩, aL, cL, ?_, ?_⟩ meas⟩
    · rw [hst]; rfl
    · rw [hst]; exact OO.ext x59
    · rw [hst]; rfl
    · rw [hst]; exact LL.ext x59
  | true =>
    obtain ⟨p1, p2, p3⟩ := gr (x5.trans x59)
    simp only [heO, p1, coreS, Value.cells, Value.oneCell', Nat.reduceAdd, Nat.reduceSub, Nat.reduceMul, Nat.reduceLeDiff, Int.reduceEq, Nat.reduceEqDiff, M28Fs25]
    refine ⟨by rw [inK_i64]; omega, ?_⟩
    refine CallsH.mono (match61L g b s m a i c ws a8 _ c8 (MB.rest (shN ws) (moN ws) left k) h9 p2 p3 hn V rfl (O8.ints.ext x9) (fun x hx => i1 x (MB.mem_rest.1 hx).1) (by omega)) ?_
    rintro v h10 ⟨⟨mb2, es2, ce2, rfl, hM2, hB2⟩, x10⟩
    have x510 := x59.trans x10
    have g10 := x10.get (x9.get g8)
    simp only [coreS, Value.cells, Value.oneCell', Nat.reduceAdd, Nat.reduceSub, Nat.reduceMul, Nat.reduceLeDiff, Int.reduceEq, Nat.reduceEqDiff, M28Fs25]
    refine len_mapT Try.underlying83 hM2 rfl ?_
    rw [hB2]
    have hml : mxv s m ws (MB.rest (shN ws) (moN ws) left k) ≤ 1000 := by
      have := (mxv_Mx V (MB.rest (shN ws) (moN ws) left k) (fun x hx => i1 x (MB.mem_rest.1 hx).1)).some_
      obtain ⟨L, h1, h2, h3⟩ := this
      have hnd : L.Nodup := h1.imp fun h e => h.1 (by rw [e])
      have := MB.nodup_le hnd h2
      omega
    by_cases hq : out.length + 1 + mxv s m ws (MB.rest (shN ws) (moN ws) left k) = most
    case neg =>
      have hqi : ¬ ((out.length : Int) + 1 + (mxv s m ws (MB.rest (shN ws) (moN ws) left k) : Nat) = (most : Nat)) := by omega
      simp only [he5, heL, heO, hqi, decide_false, coreS, Value.cells, Value.oneCell', Nat.reduceAdd, Nat.reduceSub, Nat.reduceMul, Nat.reduceLeDiff, Int.reduceEq, Nat.reduceEqDiff, M28Fs25]
      have hst : lsG s m ws (k + 1) = (out, left) := by rw [hG1, MB.lstep, if_neg (by simp [hq])]
      refine ⟨by rw [inK_i64]; omega, by rw [inK_i64]; omega, roundK_mk (by kernel_rfl) ⟨x5.trans x510, k + 1, by omega, rfl, ⟨aO, cO, ?_, ?_⟩, aL, cL, ?_, ?_⟩ meas⟩
      · rw [hst]; rfl
      · rw [hst]; exact OO.ext x510
      · rw [hst]; rfl
      · rw [hst]; exact LL.ext x510
    have hqi : ((out.length : Int) + 1 + (mxv s m ws (MB.rest (shN ws) (moN ws) left k) : Nat) = (most : Nat)) := by omega
    simp only [he5, heL, heO, hqi, decide_true, coreS, Value.cells, Value.oneCell', Nat.reduceAdd, Nat.reduceSub, Nat.reduceMul, Nat.reduceLeDiff, Int.reduceEq, Nat.reduceEqDiff, M28Fs25]
    refine ⟨by rw [inK_i64]; omega, ?_⟩
    have hst : lsG s m ws (k + 1) = (out ++ [k], MB.rest (shN ws) (moN ws) left k) := by rw [hG1, MB.lstep, if_pos (by simp only [hct, Bool.true_and, beq_iff_eq]; exact hq)]
    refine WP_tree (by kernel_rfl) sta_ext (.quiet 0 (.quiet 1 (.quiet 2 (.quiet 3 (.quiet 4 (.quiet 5 (.quiet 6 (.pure 9 (.keep 7 (.one 8 (.quiet 10 (.quiet 11 (.fin))))))))))))) (by kernel_rfl) rfl (by kernel_rfl) ?_
    simp only [heO, g10, coreS, Value.cells, Value.oneCell', Nat.reduceAdd, Nat.reduceSub, Nat.reduceMul, Nat.reduceLeDiff, Int.reduceEq, Nat.reduceEqDiff, drawS, treeS, M28Fs25]
    have hcO : out.length ≤ cO := by
      rcases OO.ok with ⟨_, q1, q2⟩ | ⟨_, _, _, _, _, _, q4, _⟩ <;> omega
    have hE : eltP aO 0 = aO := by
      rcases OO.ok with ⟨q1, _⟩ | ⟨_, _, q1, _⟩ <;> rw [q1] <;> rfl
    refine ⟨by omega, by omega, by omega, by omega, ?_⟩
    refine execT_keep fun hA xA => ?_
    simp only [List.drop, List.take, coreS, Value.cells, Value.oneCell', Nat.reduceAdd, Nat.reduceSub, Nat.reduceMul, Nat.reduceLeDiff, Int.reduceEq, Nat.reduceEqDiff, drawS, treeS, M28Fs25]
    refine ⟨(Ext.refl _).push _, ?_⟩
    refine execT_one fun hB xB => ?_
    simp only [coreS, Value.cells, Value.oneCell', Nat.reduceAdd, Nat.reduceSub, Nat.reduceMul, Nat.reduceLeDiff, Int.reduceEq, Nat.reduceEqDiff, drawS, treeS, M28Fs25]
    have x5B := ((x510.trans xA).push (.cells #[.int .i64 (k : Int)] 3)).trans xB
    refine new25 (xs := zsN out) (ys := [(k : Int)]) (a := aO) (len := out.length) (m := 1) (c := 1) ?_ rfl (OO.ext x5B).ints ((intsV_one push_new).ext xB) (by omega) (by omega) fun a' c' hC O' xC => ?_
    · refine Eq.trans (b := .slice (if ((out.length : Nat) : Int) = ((0 : Nat) : Int) then aO else eltP aO 0) ((out.length : Int) - ((0 : Nat) : Int)).toNat ((out.length : Int) - ((0 : Nat) : Int)).toNat) (by rfl) ?_
      rw [hE, ite_self]
      simp
    refine execT_fin fun hD xD => ?_
    have x5D := (x5B.trans xC).trans xD
    have ezn : zsN out ++ [(k : Int)] = zsN (out ++ [k]) := by simp [zsN]
    rw [ezn] at O'
    have hll : (out ++ [k]).length = out.length + 1 := by simp
    have hBs : h.size ≤ hB.size := (y3.trans (x5.trans x5B)).size
    simp only [he5, coreS, Value.cells, Value.oneCell', Nat.reduceAdd, Nat.reduceSub, Nat.reduceMul, Nat.reduceLeDiff, Int.reduceEq, Nat.reduceEqDiff, M28Fs25]
    refine ⟨by rw [inK_i64]; omega, roundK_mk (by kernel_rfl) ⟨x5.trans x5D, k + 1, by omega, rfl, ⟨a', c', ?_, ?_⟩, a8, c8, ?_, ?_⟩ meas⟩
    · rw [hst]; show _ = Value.slice a' (out ++ [k]).length c'; rw [hll]; rfl
    · rw [hst]; show OwnI _ _ _ _ (out ++ [k]).length _ _; rw [hll]; exact (O'.mono hBs).ext xD
    · rw [hst]; rfl
    · rw [hst]; exact (((((O8.ints.ext x9).ext x10).ext (xA.trans ((Ext.refl _).push _))).ext xB).ext xC).ext xD
end Go.Proofs.Ytmgkeeefbfefgaa
end
section
namespace Go.Proofs.Ytmgkeeefbfefgaa
open Go Go.Proofs Go.Eng Go.Run Tab
set_option maxRecDepth 100000
set_option linter.unusedSimpArgs false
set_option linter.unusedVariables false
set_option linter.defProp false
set_option maxHeartbeats 1000000
set_option linter.defProp false
def M29Fs41 := (And.intro @agg24 (And.intro @inf24 @sz24))
structure LsI (ws : List Wn) (st : List Nat × List Nat) : Prop where
  up : st.1.Pairwise (· < ·)
  lt : ∀ x ∈ st.1, x < ws.length
  fr : MB.free (shN ws) (moN ws) st.1
  ll : ∀ y ∈ st.2, y < ws.length
  no : ∀ x ∈ st.1, ∀ y ∈ st.2, x < y ∧ shN ws x ≠ shN ws y ∧ moN ws x ≠ moN ws y
theorem lsG_inv {S M : Nat} {ws : List Wn} : ∀ i, LsI ws (lsG S M ws i)
  | 0 => ⟨List.Pairwise.nil, fun _ h => absurd h List.not_mem_nil, List.Pairwise.nil, fun y hy => List.mem_range.1 hy, fun _ h => absurd h List.not_mem_nil⟩
  | i + 1 => by
    have I := lsG_inv (S := S) (M := M) (ws := ws) i
    have e : lsG S M ws (i + 1) = MB.lstep (shN ws) (moN ws) (mxv S M ws) (mxv S M ws (List.range ws.length)) (lsG S M ws i) i := rfl
    rw [e]
    generalize lsG S M ws i = st at I
    obtain ⟨out, left⟩ := st
    unfold MB.lstep
    split
    · rename_i hc
      simp only [Bool.and_eq_true, List.contains_iff_mem] at hc
      have hi : i ∈ left := hc.1
      obtain ⟨i1, i2, i3, i4, i5⟩ := I
      simp only at i1 i2 i3 i4 i5
      refine ⟨?_, ?_, ?_, ?_, ?_⟩
      · exact List.pairwise_append.2 ⟨i1, List.pairwise_singleton _ _, fun x hx y hy => by rw [List.mem_singleton.1 hy]; exact (i5 x hx i hi).1⟩
      · intro x hx
        rcases List.mem_append.1 hx with hx | hx
        · exact i2 x hx
        · rw [List.mem_singleton.1 hx]; exact i4 i hi
      · exact List.pairwise_append.2 ⟨i3, List.pairwise_singleton _ _, fun x hx y hy => by rw [List.mem_singleton.1 hy]; exact (i5 x hx i hi).2⟩
      · exact fun y hy => i4 y (MB.mem_rest.1 hy).1
      · intro x hx y hy
        obtain ⟨r1, r2⟩ := MB.mem_rest.1 hy
        rcases List.mem_append.1 hx with hx | hx
        · exact i5 x hx y r1
        · rw [List.mem_singleton.1 hx]; exact r2
    · exact I
theorem lsN_length {S M : Nat} {ws : List Wn} (V : Vb S M ws) : (lsN S M ws).length = mxv S M ws (List.range ws.length) := by
  have hmx : ∀ l : List Nat, (∀ i, i ∈ l → i < ws.length) → MB.Mx (shN ws) (moN ws) l (mxv S M ws l) := fun l hl => mxv_Mx V l hl
  unfold lsN lsG
  rw [MB.lgo_pk hmx, MB.pk_length hmx (fun i hi => List.mem_range.1 hi)]
theorem lsN_Mx {S M : Nat} {ws : List Wn} (V : Vb S M ws) : MB.Mx (shN ws) (moN ws) (List.range ws.length) (lsN S M ws).length := by
  rw [lsN_length V]
  exact mxv_Mx V _ fun i hi => List.mem_range.1 hi
theorem lsN_le {S M : Nat} {ws : List Wn} (V : Vb S M ws) : (lsN S M ws).length ≤ ws.length := by
  have I := lsG_inv (S := S) (M := M) (ws := ws) ws.length
  have := MB.nodup_le (m := List.range ws.length) (I.up.imp fun h => Nat.ne_of_lt h) fun x hx => List.mem_range.2 (I.lt x hx)
  rwa [List.length_range] at this
theorem up_riseP {n : Nat} {l : List Nat} (h : l.Pairwise (· < ·)) (hl : ∀ x ∈ l, x < n) : riseP n (zsN l) (zsN l).length := by
  intro i hi
  rw [zsN_length] at hi
  have e : ∀ j, j < l.length → (zsN l).getD j 0 = ((l.getD j 0 : Nat) : Int) := fun j hj => by
    simp [zsN, List.getD_eq_getElem?_getD, hj]
  have hm : l.getD i 0 ∈ l := by
    rw [List.getD_eq_getElem?_getD, List.getElem?_eq_getElem hi]; exact List.getElem_mem hi
  rw [e i hi]
  refine ⟨by omega, by have := hl _ hm; omega, fun h0 => ?_⟩
  rw [e (i - 1) (by omega)]
  have := List.pairwise_iff_getElem.1 h (i - 1) i (by omega) hi (by omega)
  simp only [List.getD_eq_getElem?_getD, List.getElem?_eq_getElem hi, List.getElem?_eq_getElem (show i - 1 < l.length by omega), Option.getD_some]
  omega
theorem chkL_good {S M : Nat} {ws : List Wn} (V : Vb S M ws) {l : List Nat} (hu : l.Pairwise (· < ·)) (hl : ∀ x ∈ l, x < ws.length) (hf : MB.free (shN ws) (moN ws) l) : chkL S M ws (zsN l) = 0 := by
  unfold chkL
  rw [if_neg (by simpa using V.chk), if_neg (by simpa using up_riseP hu hl), if_pos (by rw [natL_zsN]; exact hf)]
theorem lsN_ok {S M : Nat} {ws : List Wn} (V : Vb S M ws) : chkL S M ws (zsN (lsN S M ws)) = 0 := by
  have I := lsG_inv (S := S) (M := M) (ws := ws) ws.length
  exact chkL_good V I.up I.lt I.fr
theorem best41 (S M : Nat) (a : Option Addr) (n c : Nat) (ws : List Wn) (h : Eng.Heap) (hr : Row h a (wsV ws)) (hn : n = ws.length) (V : Vb S M ws) :
    CallsH Try.prog 41 #[.agg #[.int .i64 S, .int .i64 M, .slice a n c]] h (fun v h' =>
      (∃ a' c', v = .tuple #[.slice a' (lsN S M ws).length c', .bool true] ∧ OwnI h.size h' 3 a' (lsN S M ws).length c' (zsN (lsN S M ws))) ∧ Ext h h') := by
  have hV := V.n
  have hll := lsN_le V
  (refine CallsH_of_exec Try.func41 rfl bod41 ?_; simp only [Try.ntmps41, Try.results41, coreS, stK_some, splice, Value.cells, Value.oneCell', Nat.reduceAdd, Nat.reduceSub, Nat.reduceMul, Nat.reduceLeDiff, Int.reduceEq, Nat.reduceEqDiff, M29Fs41])
  have x0 : Ext h (h.push (.cells #[.int .i64 S, .int .i64 M, .slice a n c] 24)) := (Ext.refl h).push _
  refine CallsH.mono (list25 S M a n c ws _ (hr.ext x0) hn (by omega)) ?_
  rintro v h1 ⟨⟨s, m, es, em, _, a', c', rfl, O⟩ | ⟨hc, _⟩, x1⟩
  case inr => exact absurd V.chk hc
  obtain rfl : S = s := by omega
  obtain rfl : M = m := by omega
  have y1 := x0.trans x1
  have hb1 := x1.get (push_new (h := h))
  simp only [hb1, decide_true, coreS, Value.cells, Value.oneCell', Nat.reduceAdd, Nat.reduceSub, Nat.reduceMul, Nat.reduceLeDiff, Int.reduceEq, Nat.reduceEqDiff, M29Fs41]
  refine CallsH.mono (checkList30 S M a n c ws a' _ c' _ h1 (hr.ext y1) hn (by omega) O.ints (by omega)) ?_
  rintro v h2 ⟨rfl, x2⟩
  rw [lsN_ok V]
  have y2 := y1.trans x2
  simp only [x2.get hb1, decide_true, coreS, Value.cells, Value.oneCell', Nat.reduceAdd, Nat.reduceSub, Nat.reduceMul, Nat.reduceLeDiff, Int.reduceEq, Nat.reduceEqDiff, M29Fs41]
  refine CallsH.mono (checkList31 S M a n c ws a' _ c' _ h2 (hr.ext y2) hn (by omega) (O.ext x2).ints (by omega)) ?_
  rintro v h3 ⟨rfl, x3⟩
  rw [lsN_ok V]
  simp only [decide_true, coreS, Value.cells, Value.oneCell', Nat.reduceAdd, Nat.reduceSub, Nat.reduceMul, Nat.reduceLeDiff, Int.reduceEq, Nat.reduceEqDiff, M29Fs41]
  exact ⟨⟨a', c', rfl, ((O.mono (by rw [push_size]; omega)).ext x2).ext x3⟩, y2.trans x3⟩
end Go.Proofs.Ytmgkeeefbfefgaa
end
section
set_option linter.unusedVariables false
set_option linter.unusedSimpArgs false
namespace Go.Eng
open Go Go.ChangeShapes Go.WideShapes Go.ChangeAt Go.RowKit
section rowkit
variable {P : Program} {H : Type} {enc : TypeId × Value → H}
theorem same_of {W W' : World} (x : Ext W.heap W'.heap) {p : MemPlace} (hp : p.block < W.heap.size) : W.sameAt W' p := by
  have h := x.old p.block hp
  cases p with
  | cell b o => exact World.cell?_of_block (w := W) h
  | map b => exact h
theorem trodAll_ext (hl : laidOutB P = true) {W W' : World} (x : Ext W.heap W'.heap) {sp : Nat → Bool} : ∀ {ts : List TypeId} {vs : List Value} {ds : List (DataW H)} {ps : List MemPlace},
    (ts.all fun t => P.readableRec t && decide (t < P.types.size)) = true → DataW.TrodAll enc P W 0 (fun _ => true) true ts vs ds ps → (∀ p ∈ ps, p.block < W.heap.size) → (∀ p ∈ ps, sp p.block = true) → DataW.TrodAll enc P W' 0 sp true ts vs ds ps
  | [], [], [], ps, _, h, _, _ => h
  | t :: ts, v :: vs, d :: ds, ps, ht, ⟨p, q, h1, h2, he⟩, hb, hs => by
    subst he
    simp only [List.all_cons, Bool.and_eq_true, decide_eq_true_eq] at ht
    exact ⟨p, q, WideElems.Trod_stays hl ht.1.1 ht.1.2 h1 (fun y hy => same_of x (hb y (by simp [hy]))) (fun y hy => hs y (by simp [hy])),
      trodAll_ext hl x (by simpa using ht.2) h2 (fun y hy => hb y (by simp [hy])) (fun y hy => hs y (by simp [hy])), rfl⟩
theorem calls_ext {f : FuncId} {args : Array Value} {W : World} {b : Bool} (hc : CallsH P f args W.heap (fun v h' => v = .bool b ∧ Ext W.heap h')) : Calls P f args W fun e W' => e = .returned (.bool b) ∧ Ext W.heap W'.heap ∧ Rest W W' := by
  unfold CallsH CallsW at hc
  refine Calls.mono (hc.2 W rfl) ?_
  rintro e W' ⟨v, rfl, ⟨rfl, x⟩, r⟩
  exact ⟨rfl, x, r⟩
end rowkit
end Go.Eng
end
section
set_option linter.unusedVariables false
set_option linter.unusedSimpArgs false
namespace Go.Eng
open Go Go.ChangeShapes Go.WideShapes Go.ChangeAt Go.RowKit
theorem row_of {W : World} {a : Addr} {vs : List Value} (hc : ∀ i (hi : i < vs.length), W.cell? (a.add i) = some vs[i]) : Row W.heap (some a) vs := by
  by_cases hn : vs.length = 0
  · left; exact List.eq_nil_of_length_eq_zero hn
  right
  have key : ∀ i u, W.cell? (a.add i) = some u → (i = 0 → a.spot = none) ∧ ∃ cur ct fr, W.heap[a.block]? = some (.cells cur ct fr) ∧ cur[a.off + i]? = some u := by
    intro i u hu
    unfold World.cell? Addr.add at hu
    by_cases hi : i = 0
    · subst hi
      simp only [if_true] at hu
      split at hu <;> simp_all
    · simp only [hi, if_false] at hu
      split at hu <;> simp_all
  obtain ⟨hsp, cur, ct, fr, hb, _⟩ := key 0 _ (hc 0 (by omega))
  have hcur : ∀ i (hi : i < vs.length), cur[a.off + i]? = some vs[i] := fun i hi => by
    obtain ⟨_, cur2, ct2, fr2, hb2, hc2⟩ := key i _ (hc i hi)
    rw [hb] at hb2
    cases hb2
    exact hc2
  have hsz : a.off + vs.length ≤ cur.size := by
    have := hcur (vs.length - 1) (by omega)
    have := (Array.getElem?_eq_some_iff.1 this).1
    omega
  obtain ⟨b, off, spot⟩ := a
  replace hsp := hsp rfl
  simp only at hsp hb hcur hsz
  subst hsp
  refine ⟨b, off, cur, ct, fr, rfl, hb, hsz, ?_⟩
  apply List.ext_getElem?
  intro i
  rw [List.getElem?_take, List.getElem?_drop]
  by_cases hi : i < vs.length
  · rw [if_pos hi, Array.getElem?_toList, hcur i hi, List.getElem?_eq_getElem hi]
  · rw [if_neg hi, List.getElem?_eq_none (by omega)]
theorem list_choose {α : Type} {p : Nat → α → Prop} : ∀ n, (∀ i < n, ∃ x, p i x) → ∃ l : List α, l.length = n ∧ ∀ i (hi : i < l.length), p i l[i]
  | 0, _ => ⟨[], rfl, fun i hi => by simp at hi⟩
  | n + 1, H => by
    obtain ⟨l, hl, h⟩ := list_choose n fun i hi => H i (by omega)
    obtain ⟨x, hx⟩ := H n (by omega)
    refine ⟨l ++ [x], by simp [hl], fun i hi => ?_⟩
    by_cases hin : i < l.length
    · rw [List.getElem_append_left hin]; exact h i hin
    · have : i = l.length := by simp at hi; omega
      subst this
      rw [List.getElem_append_right (Nat.le_refl _)]
      simpa [hl] using hx
end Go.Eng
end
section
namespace Go.Proofs.Ytmgkeeefbfefgaa
open Go Go.Proofs Go.Eng Go.Run Tab
set_option maxRecDepth 100000
set_option linter.unusedSimpArgs false
set_option linter.unusedVariables false
set_option linter.defProp false
set_option maxHeartbeats 1000000
set_option linter.defProp false
def M15Fs36 := (And.intro @agg24 (And.intro @inf24 @sz24))
def M15Fs37 := (And.intro @agg24 (And.intro @inf24 @sz24))
theorem fine36 (S M : Int) (a : Option Addr) (n c : Nat) (ws : List Wn) (h : Eng.Heap) (hr : Row h a (wsV ws)) (hn : n = ws.length) :
    CallsH Try.prog 36 #[.agg #[.int .i64 S, .int .i64 M, .slice a n c]] h (fun v h' => v = .bool (decide (chk S M ws = 0)) ∧ Ext h h') := by
  (refine CallsH_of_exec Try.func36 rfl bod36 ?_; simp only [Try.ntmps36, Try.results36, coreS, stK_some, splice, Value.cells, Value.oneCell', Nat.reduceAdd, Nat.reduceSub, Nat.reduceMul, Nat.reduceLeDiff, Int.reduceEq, Nat.reduceEqDiff, M15Fs36])
  have x0 : Ext h (h.push (.cells #[.int .i64 S, .int .i64 M, .slice a n c] 24)) := (Ext.refl h).push _
  refine CallsH.mono (great15 S M a n c _) ?_
  rintro v h1 ⟨rfl, x1⟩
  have hb1 := x1.get (push_new (h := h))
  have y1 := x0.trans x1
  by_cases hg : 20 < (n : Int)
  · have hc : ¬ chk S M ws = 0 := by unfold chk; rw [if_pos (.inr (.inr (by omega)))]; omega
    simp only [hg, hc, decide_true, decide_false, Bool.not_true, coreS, Value.cells, Value.oneCell', Nat.reduceAdd, Nat.reduceSub, Nat.reduceMul, Nat.reduceLeDiff, Int.reduceEq, Nat.reduceEqDiff, M15Fs36]
    exact y1
  · simp only [hg, hb1, decide_false, Bool.not_false, coreS, Value.cells, Value.oneCell', Nat.reduceAdd, Nat.reduceSub, Nat.reduceMul, Nat.reduceLeDiff, Int.reduceEq, Nat.reduceEqDiff, M15Fs36]
    refine CallsH.mono (check23 S M a n c ws h1 (hr.ext y1) hn (by omega)) ?_
    rintro v h2 ⟨rfl, x2⟩
    simp only [coreS, Value.cells, Value.oneCell', Nat.reduceAdd, Nat.reduceSub, Nat.reduceMul, Nat.reduceLeDiff, Int.reduceEq, Nat.reduceEqDiff, M15Fs36]
    exact y1.trans x2
theorem dysF_D {S M : Nat} {ws : List Wn} (V : Vb S M ws) : chkD S M ws (zsN (dysF ws)) = 0 ∧ difD S M ws (zsN (dysF ws)) = (gld ws : Nat) := by
  obtain ⟨d1, d2, d3, d4, d5⟩ := dysF_ok V
  have hG := gld_le V
  have hV := V.n
  have h1 : chkD S M ws (zsN (dysF ws)) = 0 := by
    unfold chkD
    rw [if_neg (by simpa using V.chk), if_neg (by rw [zsN_length, d2]; simp), if_neg, if_pos]
    · unfold rightD; rw [natL_zsN]; exact d3
    · have : inB 0 13 (zsN (dysF ws)) = true := inB_iff.2 fun x hx => by
        obtain ⟨y, hy, rfl⟩ := List.mem_map.1 hx
        have := d4 y hy
        omega
      rw [this]; simp
  refine ⟨h1, ?_⟩
  unfold difD
  rw [if_pos h1, natL_zsN, d5]
theorem few37 (S M : Nat) (a : Option Addr) (n c : Nat) (ws : List Wn) (h : Eng.Heap) (hr : Row h a (wsV ws)) (hn : n = ws.length) (V : Vb S M ws) :
    CallsH Try.prog 37 #[.agg #[.int .i64 S, .int .i64 M, .slice a n c]] h (fun v h' => (∃ q, v = .tuple #[.int .i64 (gld ws : Nat), .slice (some ⟨q, 0, none⟩) ws.length ws.length, .bool true] ∧ h.size ≤ q ∧ h'[q]? = some (.cells (Eng.ints (zsN (dysF ws))).toArray 3)) ∧ Ext h h') := by
  have hV := V.n
  obtain ⟨f1, f2⟩ := dysF_D V
  obtain ⟨d1, d2, d3, d4, d5⟩ := dysF_ok V
  (refine CallsH_of_exec Try.func37 rfl bod37 ?_; simp only [Try.ntmps37, Try.results37, coreS, stK_some, splice, Value.cells, Value.oneCell', Nat.reduceAdd, Nat.reduceSub, Nat.reduceMul, Nat.reduceLeDiff, Int.reduceEq, Nat.reduceEqDiff, M15Fs37])
  have x0 : Ext h (h.push (.cells #[.int .i64 S, .int .i64 M, .slice a n c] 24)) := (Ext.refl h).push _
  refine CallsH.mono (fewest47 S M a n c ws _ (hr.push _) hn (by omega)) ?_
  rintro v h1 ⟨rfl, x1⟩
  have hb1 := x1.get (push_new (h := h))
  have y1 := x0.trans x1
  simp only [V.chk, if_true, hb1, coreS, Value.cells, Value.oneCell', Nat.reduceAdd, Nat.reduceSub, Nat.reduceMul, Nat.reduceLeDiff, Int.reduceEq, Nat.reduceEqDiff, M15Fs37]
  refine CallsH.mono (days48 S M a n c ws h1 (hr.ext y1) hn (by omega)) ?_
  rintro v h2 ⟨D, x2⟩
  obtain ⟨q, rfl, hq, hz⟩ := D.ok V.chk
  have hb2 := x2.get hb1
  have y2 := y1.trans x2
  have I2 : IntsV h2 (some ⟨q, 0, none⟩) ws.length (zsN (dysF ws)) := by
    have := IntsV.block (xs := zsN (dysF ws)) hz
    rwa [zsN_length, d2] at this
  simp only [hb2, decide_true, Bool.not_true, coreS, Value.cells, Value.oneCell', Nat.reduceAdd, Nat.reduceSub, Nat.reduceMul, Nat.reduceLeDiff, Int.reduceEq, Nat.reduceEqDiff, M15Fs37]
  refine CallsH.mono (checkDays20 S M a n c ws _ ws.length ws.length _ h2 (hr.ext y2) hn (by omega) I2 (by omega)) ?_
  rintro v h3 ⟨rfl, x3⟩
  rw [f1, f2]
  have y3 := y2.trans x3
  simp only [x3.get hb2, coreS, Value.cells, Value.oneCell', Nat.reduceAdd, Nat.reduceSub, Nat.reduceMul, Nat.reduceLeDiff, Int.reduceEq, Nat.reduceEqDiff, M15Fs37]
  refine CallsH.mono (checkDays21 S M a n c ws _ ws.length ws.length _ h3 (hr.ext y3) hn (by omega) (I2.ext x3) (by omega) (Nat.le_refl _)) ?_
  rintro v h4 ⟨rfl, x4⟩
  rw [f1, f2]
  have y4 := y3.trans x4
  simp only [decide_true, coreS, Value.cells, Value.oneCell', Nat.reduceAdd, Nat.reduceSub, Nat.reduceMul, Nat.reduceLeDiff, Int.reduceEq, Nat.reduceEqDiff, M15Fs37]
  have := y1.size
  exact ⟨⟨q, rfl, by omega, x4.get (x3.get hz)⟩, y4⟩
end Go.Proofs.Ytmgkeeefbfefgaa
end
section
set_option linter.unusedVariables false
set_option linter.unusedSimpArgs false
namespace Go.Eng
open Go
attribute [local semireducible] opSem opQS CallsW setD WP
section drawB
variable {l : Option Nat} {P : Program} {ops : Array Oper}
structure Pre (R : Heap → Heap → Prop) : Prop where
  refl : ∀ h, R h h
  trans : ∀ a b c, R a b → R b c → R a c
theorem Pre.of {R : Heap → Heap → Prop} (hS : Pre R) {a b : Heap} (h : EqH a b) : R a b := by rw [show b = a from h]; exact hS.1 _
def anyB (P : Program) (ops : Array Oper) (R : Heap → Heap → Prop) (G : Nat → Bool) (Q : Act → World → Prop) : Nat → Array Bool → Act → World → Prop
  | 0, listed, a, w => ∀ w1, Rest w w1 → EqH w.heap w1.heap → Region.ready .any ops listed = [] ∧ Q a w1
  | n + 1, listed, a, w => ∀ w1, Rest w w1 → EqH w.heap w1.heap → (Region.ready .any ops listed = [] → Q a w1) ∧
      ∀ i ∈ Region.ready .any ops listed, opD P ops i (fun a' w' => (G i = true → R w1.heap w'.heap) ∧ Rest w1 w' ∧ anyB P ops R G Q n (listed.setIfInBounds i true) a' w') a w1
variable {R : Heap → Heap → Prop} {G : Nat → Bool} {Q : Act → World → Prop}
theorem eqT {a b c : Heap} (x : EqH a b) (y : EqH b c) : EqH a c := Eq.trans y x
theorem anyB_later  {n : Nat} {listed : Array Bool} {a : Act} {w w' : World} (hr : Rest w w') (hR : EqH w.heap w'.heap) (H : anyB P ops R G Q n listed a w) : anyB P ops R G Q n listed a w' := by
  cases n with
  | zero => exact fun w1 h1 h2 => H w1 (hr.trans h1) (eqT hR h2)
  | succ n => exact fun w1 h1 h2 => H w1 (hr.trans h1) (eqT hR h2)
theorem wpAny_of_anyB  {Q' : Exit → Act → World → Prop} (hQ : ∀ a w, Q a w → Q' .normal a w) : ∀ (n : Nat) (listed : Array Bool) (a : Act) (w : World), anyB P ops R G Q n listed a w → wpAnyIn (fen l) 0 P .any ops Q' n listed a w
  | 0, listed, a, w, H => ⟨(H w (Rest.refl w) rfl).1, hQ _ _ (H w (Rest.refl w) rfl).2⟩
  | n + 1, listed, a, w, H => by
    have H := H w (Rest.refl w) rfl
    exact ⟨fun h0 => hQ _ _ (H.1 h0), fun i hi => wpOpIn_mono (fun a' w' h' => wpAny_of_anyB hQ n _ a' w' h'.2.2) (wpOpIn_of_opD (H.2 i hi))⟩
def YdB (P : Program) (ops : Array Oper) (R : Heap → Heap → Prop) (o : Oper) (v : Value) (a : Act) (w : World) : Prop :=
  (Region.wanted o (yielded ops a.tmps) = true ∧ ∀ w', Rest w w' → R w.heap w'.heap → opSw P o a w' (fun v' w'' => v' = v ∧ EqH w'.heap w''.heap)) ∨
  (Region.wanted o (yielded ops a.tmps) = false ∧ v = undef)
theorem YdB_later (hS : Pre R) {o : Oper} {v : Value} {a : Act} {w w' : World} (hr : Rest w w') (hR : R w.heap w'.heap) (H : YdB P ops R o v a w) : YdB P ops R o v a w' := by
  rcases H with ⟨h1, h2⟩ | h
  · exact .inl ⟨h1, fun w1 hr1 hR1 => h2 w1 (hr.trans hr1) (hS.2 _ _ _ hR hR1)⟩
  · exact .inr h
theorem YdB_of {o : Oper} {v : Value} {a a' : Act} {w : World} (H : YdB P ops R o v a w) (he : execOp a'.eval o = execOp a.eval o) (hw : Region.wanted o (yielded ops a'.tmps) = Region.wanted o (yielded ops a.tmps)) : YdB P ops R o v a' w := by
  unfold YdB opSw at *
  rw [he, hw]
  exact H
theorem anyB_first (hS : Pre R) {i : Nat} {oi : Oper} {v : Value} (hi : ops[i]? = some oi) (hsel : ∀ (j : Nat) (o : Oper) cs b, ops[j]? = some o → o.op ≠ .select cs b) (Bk : List Nat) (hBk : ∀ j ∈ Bk, j ≠ i ∧ ∀ oj, ops[j]? = some oj → ∃ e ∈ oj.after, Region.binds .any e = true ∧ (e.on = i ∨ e.on ∈ Bk)) :
    ∀ (fuel : Nat) (listed : Array Bool) (a : Act) (w : World),
      (∀ j oj, ops[j]? = some oj → j ≠ i → listed.getD j true = false → j ∉ Bk → oi.apart ops oj = true ∧ G j = true) → (∀ j ∈ Bk, listed.getD j true = false) →
      i ∈ Region.ready .any ops listed → YdB P ops R oi v a w →
      anyB P ops R G Q fuel (listed.setIfInBounds i true) (a.put oi.dst v) w → anyB P ops R G Q (fuel + 1) listed a w := by
  intro fuel
  have self : ∀ (fuel : Nat) (listed : Array Bool) (a : Act) (w w1 : World), Rest w w1 → EqH w.heap w1.heap → YdB P ops R oi v a w →
      anyB P ops R G Q fuel (listed.setIfInBounds i true) (a.put oi.dst v) w → opD P ops i (fun a' w' => (G i = true → R w1.heap w'.heap) ∧ Rest w1 w' ∧ anyB P ops R G Q fuel (listed.setIfInBounds i true) a' w') a w1 := by
    intro fuel listed a w w1 hr1 hR1 hy H
    unfold opD
    simp only [hi]
    rcases hy with ⟨hw, hy⟩ | ⟨hw, hv⟩
    · simp only [hw, if_true]
      obtain ⟨hd, hs⟩ := hy w1 hr1 (hS.of hR1)
      refine ⟨hd, semPostW_mono ?_ hs⟩
      rintro v' w'' hr ⟨rfl, hR⟩
      exact ⟨fun _ => hS.of hR, hr, anyB_later (hr1.trans hr) (eqT hR1 hR) H⟩
    · simp only [hw]
      subst hv
      exact ⟨fun _ => hS.1 _, Rest.refl _, anyB_later hr1 hR1 H⟩
  induction fuel with
  | zero =>
    intro listed a w _ hbl hr hy H w1 hr1 hR1
    refine ⟨fun h => (by rw [h] at hr; cases hr), fun j hj => ?_⟩
    by_cases hji : j = i
    · subst hji; exact self 0 listed a w w1 hr1 hR1 hy H
    · have := ready_mono hj hji
      rw [(H w1 hr1 hR1).1] at this
      cases this
  | succ fuel ih =>
    intro listed a w hfree hbl hr hy H w1 hr1 hR1
    refine ⟨fun h => (by rw [h] at hr; cases hr), fun j hj => ?_⟩
    by_cases hji : j = i
    · subst hji; exact self (fuel + 1) listed a w w1 hr1 hR1 hy H
    · have h1 := (H w1 hr1 hR1).2 j (ready_mono hj hji)
      obtain ⟨hjun, oj, hoj, hall⟩ := mem_ready.1 hj
      have hnot : j ∉ Bk := fun hjB => by
        obtain ⟨e, he, hb, hon⟩ := (hBk j hjB).2 oj hoj
        have h1 := hall e he hb
        have h0 : listed.getD e.on true = false := by
          rcases hon with hon | hon
          · rw [hon]; exact (mem_ready.1 hr).1
          · exact hbl _ hon
        rcases Nat.lt_or_ge e.on listed.size with h' | h'
        · simp [h'] at h0 h1; rw [h0] at h1; cases h1
        · simp [Array.getElem?_eq_none h'] at h1
      obtain ⟨hap, hGj⟩ := hfree j oj hoj hji hjun hnot
      obtain ⟨hp1, hp2, hp3⟩ := Oper.apart_spec hap
      have hsj : ∀ cs b, oj.op ≠ .select cs b := fun cs b => hsel j oj cs b hoj
      have hsi : ∀ cs b, oi.op ≠ .select cs b := fun cs b => hsel i oi cs b hi
      have hfree' : ∀ k ok, ops[k]? = some ok → k ≠ i → (listed.setIfInBounds j true).getD k true = false →
          k ∉ Bk → oi.apart ops ok = true ∧ G k = true := fun k ok hk hki hun hno => by
        refine hfree k ok hk hki ?_ hno
        by_cases hjk : j = k
        · subst hjk; exact hjun
        · rw [getD_set_ne true hjk] at hun; exact hun
      have hbl' : ∀ k ∈ Bk, (listed.setIfInBounds j true).getD k true = false := fun k hk => by
        have hjk : j ≠ k := fun h => hnot (h ▸ hk)
        rw [getD_set_ne true hjk]
        exact hbl k hk
      have step : ∀ (u : Value) (w' : World), Rest w1 w' → ((G j = true → R w1.heap w'.heap) ∧ Rest w1 w' ∧ anyB P ops R G Q fuel ((listed.setIfInBounds i true).setIfInBounds j true) ((a.put oi.dst v).put oj.dst u) w') →
          (G j = true → R w1.heap w'.heap) ∧ Rest w1 w' ∧ anyB P ops R G Q (fuel + 1) (listed.setIfInBounds j true) (a.put oj.dst u) w' := by
        rintro u w' hr' ⟨hg, hr2, hany⟩
        refine ⟨hg, hr2, ih (listed.setIfInBounds j true) (a.put oj.dst u) w' hfree' hbl' (ready_mono hr (Ne.symm hji)) ?_ ?_⟩
        · exact YdB_of (YdB_later hS (hr1.trans hr2) (hS.2 _ _ _ (hS.of hR1) (hg hGj)) hy) (execOp_put oi hsi a oj.dst u hp3) (wanted_put oi a oj.dst u hp3)
        · rw [Array.setIfInBounds_comm _ _ hji, ← Act.put_comm a v u hp2]
          exact hany
      unfold opD at h1 ⊢
      simp only [hoj] at h1 ⊢
      rw [wanted_put oj a oi.dst v hp1] at h1
      split
      · rename_i hw
        simp only [hw, if_true] at h1
        refine ⟨h1.1, ?_⟩
        have h2 := h1.2
        rw [execOp_put oj hsj a oi.dst v hp1] at h2
        exact semPostW_mono (fun u w' hr' h3 => step u w' hr' h3) h2
      · rename_i hw
        simp only [hw] at h1
        exact step undef w1 (Rest.refl _) h1
theorem anyB_firstP (hS : Pre R) {i : Nat} {oi : Oper} {v : Value} (hi : ops[i]? = some oi) (hsel : ∀ (j : Nat) (o : Oper) cs b, ops[j]? = some o → o.op ≠ .select cs b) (Bk : List Nat) (hBk : ∀ j ∈ Bk, j ≠ i ∧ ∀ oj, ops[j]? = some oj → ∃ e ∈ oj.after, Region.binds .any e = true ∧ (e.on = i ∨ e.on ∈ Bk)) :
    ∀ (fuel : Nat) (listed : Array Bool) (a : Act) (w : World),
      (∀ j oj, ops[j]? = some oj → j ≠ i → listed.getD j true = false → j ∉ Bk → oi.apart ops oj = true) → (∀ j ∈ Bk, listed.getD j true = false) →
      i ∈ Region.ready .any ops listed → YdP P ops oi v a w →
      anyB P ops R G Q fuel (listed.setIfInBounds i true) (a.put oi.dst v) w → anyB P ops R G Q (fuel + 1) listed a w := by
  intro fuel
  have self : ∀ (fuel : Nat) (listed : Array Bool) (a : Act) (w w1 : World), Rest w w1 → EqH w.heap w1.heap → YdP P ops oi v a w →
      anyB P ops R G Q fuel (listed.setIfInBounds i true) (a.put oi.dst v) w → opD P ops i (fun a' w' => (G i = true → R w1.heap w'.heap) ∧ Rest w1 w' ∧ anyB P ops R G Q fuel (listed.setIfInBounds i true) a' w') a w1 := by
    intro fuel listed a w w1 hr1 hR1 hy H
    unfold opD
    simp only [hi]
    rcases hy with ⟨hw, hy⟩ | ⟨hw, hv⟩
    · simp only [hw, if_true]
      obtain ⟨hd, hs⟩ := hy w1 hr1
      refine ⟨hd, semPostW_mono ?_ hs⟩
      rintro v' w'' hr ⟨rfl, hE⟩
      have hR : EqH w1.heap w''.heap := hE
      exact ⟨fun _ => hS.of hR, hr, anyB_later (hr1.trans hr) (eqT hR1 hR) H⟩
    · simp only [hw]
      subst hv
      exact ⟨fun _ => hS.1 _, Rest.refl _, anyB_later hr1 hR1 H⟩
  induction fuel with
  | zero =>
    intro listed a w _ hbl hr hy H w1 hr1 hR1
    refine ⟨fun h => (by rw [h] at hr; cases hr), fun j hj => ?_⟩
    by_cases hji : j = i
    · subst hji; exact self 0 listed a w w1 hr1 hR1 hy H
    · have := ready_mono hj hji
      rw [(H w1 hr1 hR1).1] at this
      cases this
  | succ fuel ih =>
    intro listed a w hfree hbl hr hy H w1 hr1 hR1
    refine ⟨fun h => (by rw [h] at hr; cases hr), fun j hj => ?_⟩
    by_cases hji : j = i
    · subst hji; exact self (fuel + 1) listed a w w1 hr1 hR1 hy H
    · have h1 := (H w1 hr1 hR1).2 j (ready_mono hj hji)
      obtain ⟨hjun, oj, hoj, hall⟩ := mem_ready.1 hj
      have hnot : j ∉ Bk := fun hjB => by
        obtain ⟨e, he, hb, hon⟩ := (hBk j hjB).2 oj hoj
        have h1 := hall e he hb
        have h0 : listed.getD e.on true = false := by
          rcases hon with hon | hon
          · rw [hon]; exact (mem_ready.1 hr).1
          · exact hbl _ hon
        rcases Nat.lt_or_ge e.on listed.size with h' | h'
        · simp [h'] at h0 h1; rw [h0] at h1; cases h1
        · simp [Array.getElem?_eq_none h'] at h1
      have hap := hfree j oj hoj hji hjun hnot
      obtain ⟨hp1, hp2, hp3⟩ := Oper.apart_spec hap
      have hsj : ∀ cs b, oj.op ≠ .select cs b := fun cs b => hsel j oj cs b hoj
      have hsi : ∀ cs b, oi.op ≠ .select cs b := fun cs b => hsel i oi cs b hi
      have hfree' : ∀ k ok, ops[k]? = some ok → k ≠ i → (listed.setIfInBounds j true).getD k true = false →
          k ∉ Bk → oi.apart ops ok = true := fun k ok hk hki hun hno => by
        refine hfree k ok hk hki ?_ hno
        by_cases hjk : j = k
        · subst hjk; exact hjun
        · rw [getD_set_ne true hjk] at hun; exact hun
      have hbl' : ∀ k ∈ Bk, (listed.setIfInBounds j true).getD k true = false := fun k hk => by
        have hjk : j ≠ k := fun h => hnot (h ▸ hk)
        rw [getD_set_ne true hjk]
        exact hbl k hk
      have step : ∀ (u : Value) (w' : World), Rest w1 w' → ((G j = true → R w1.heap w'.heap) ∧ Rest w1 w' ∧ anyB P ops R G Q fuel ((listed.setIfInBounds i true).setIfInBounds j true) ((a.put oi.dst v).put oj.dst u) w') →
          (G j = true → R w1.heap w'.heap) ∧ Rest w1 w' ∧ anyB P ops R G Q (fuel + 1) (listed.setIfInBounds j true) (a.put oj.dst u) w' := by
        rintro u w' hr' ⟨hg, hr2, hany⟩
        refine ⟨hg, hr2, ih (listed.setIfInBounds j true) (a.put oj.dst u) w' hfree' hbl' (ready_mono hr (Ne.symm hji)) ?_ ?_⟩
        · exact YdP_of (YdP_later (hr1.trans hr2) hy) (execOp_put oi hsi a oj.dst u hp3) (wanted_put oi a oj.dst u hp3)
        · rw [Array.setIfInBounds_comm _ _ hji, ← Act.put_comm a v u hp2]
          exact hany
      unfold opD at h1 ⊢
      simp only [hoj] at h1 ⊢
      rw [wanted_put oj a oi.dst v hp1] at h1
      split
      · rename_i hw
        simp only [hw, if_true] at h1
        refine ⟨h1.1, ?_⟩
        have h2 := h1.2
        rw [execOp_put oj hsj a oi.dst v hp1] at h2
        exact semPostW_mono (fun u w' hr' h3 => step u w' hr' h3) h2
      · rename_i hw
        simp only [hw] at h1
        exact step undef w1 (Rest.refl _) h1
end drawB
def RB (m : Nat) (h h' : Heap) : Prop := h.size ≤ h'.size ∧ ∀ b, b < m → h'[b]? = h[b]?
theorem pre_RB (m : Nat) : Pre (RB m) := ⟨fun h => ⟨Nat.le_refl _, fun _ _ => rfl⟩, fun a b c x y => ⟨Nat.le_trans x.1 y.1, fun i hi => (y.2 i hi).trans (x.2 i hi)⟩⟩
theorem RB.of_ext {m : Nat} {h h' : Heap} (x : Ext h h') (hm : m ≤ h.size) : RB m h h' := ⟨x.size, fun b hb => x.old b (by omega)⟩
theorem RB.of_upd {m b : Nat} {h h' : Heap} (u : Upd h h' b) (hm : m ≤ b) : RB m h h' := ⟨by rw [u.size]; exact Nat.le_refl _, fun i hi => u.old i (by omega)⟩
theorem RB.refl (m : Nat) (h : Heap) : RB m h h := (pre_RB m).1 h
theorem RB.trans {m : Nat} {a b c : Heap} (x : RB m a b) (y : RB m b c) : RB m a c := (pre_RB m).2 _ _ _ x y
theorem RB.get {m b : Nat} {h h' : Heap} {o : Obj} (x : RB m h h') (hb : b < m) (hg : h[b]? = some o) : h'[b]? = some o := (x.2 b hb).trans hg
theorem RB.ext {h h' : Heap} (x : RB h.size h h') : Ext h h' := ⟨x.1, fun b hb => x.2 b hb⟩
def oldP (m : Nat) (v : Value) : Prop := match v with | .pointer (some a) => a.block < m | _ => False
def ldB (P : Program) (m : Nat) (o : Op) (e : Env) (h : Heap) (K : Value → Heap → Prop) : Prop := match o with | .load t x => oldP m (ev e x) ∧ loadW P t (ev e x) h K | _ => False
inductive PB where
  | fin
  | load (i : Nat) (r : PB)
  | pure (i : Nat) (r : PB)
  | keep (i : Nat) (r : PB)
  | fork (x y : Nat) (a b : PB)
  | fork3 (x y z : Nat) (a b c : PB)
def PB.size : PB → Nat
  | .fin => 0
  | .load _ r | .pure _ r | .keep _ r => r.size + 1
  | .fork _ _ a _ => a.size + 1
  | .fork3 _ _ _ a _ _ => a.size + 1
section treeB
variable {P : Program} {l : Option Nat} {m : Nat}
def execB (P : Program) (m : Nat) (all : List Oper) : PB → Cont → Env → List Deferred → Heap → Prop
  | .fin, k, e, d, h => k .normal e d h
  | .load i rest, k, e, d, h => match all[i]? with
    | some o => guardW o.guard all e (fun e => ldB P m o.op e h (fun v h' => execB P m all rest k (putE e o.dst v) d h')) (fun e => execB P m all rest k (putE e o.dst undef) d h)
    | none => False
  | .pure i rest, k, e, d, h => match all[i]? with
    | some o => guardW o.guard all e (fun e => opPW P o.op e h (fun v h' => execB P m all rest k (putE e o.dst v) d h')) (fun e => execB P m all rest k (putE e o.dst undef) d h)
    | none => False
  | .keep i rest, k, e, d, h => stO P all all[i]? e h (fun e h'' => RB m h h'' ∧ execB P m all rest k e d h'')
  | .fork x y a b, k, e, d, h => stO P all all[x]? e h (fun e h'' => RB m h h'' ∧ execB P m all a k e d h'') ∧ stO P all all[y]? e h (fun e h'' => RB m h h'' ∧ execB P m all b k e d h'')
  | .fork3 x y z a b c, k, e, d, h => stO P all all[x]? e h (fun e h'' => RB m h h'' ∧ execB P m all a k e d h'') ∧ stO P all all[y]? e h (fun e h'' => RB m h h'' ∧ execB P m all b k e d h'') ∧ stO P all all[z]? e h (fun e h'' => RB m h h'' ∧ execB P m all c k e d h'')
def okB (all : List Oper) : PB → Array Bool → Bool
  | .fin, listed => (Region.ready .any all.toArray listed).isEmpty
  | .load i rest, listed => (Region.ready .any all.toArray listed).contains i && blkOk all listed i (blk all listed i all.length 0 []) &&
      ((List.range all.length).all fun j => j == i || listed.getD j true || (blk all listed i all.length 0 []).contains j || (match all[i]?, all[j]? with | some oi, some oj => oi.apart all.toArray oj | _, _ => true)) &&
      okB all rest (listed.setIfInBounds i true)
  | .pure i rest, listed => (Region.ready .any all.toArray listed).contains i && blkOk all listed i (blk all listed i all.length 0 []) &&
      ((List.range all.length).all fun j => j == i || listed.getD j true || (blk all listed i all.length 0 []).contains j || (match all[i]?, all[j]? with | some oi, some oj => oi.apart all.toArray oj | _, _ => true)) &&
      okB all rest (listed.setIfInBounds i true)
  | .keep i rest, listed => decide (Region.ready .any all.toArray listed = [i]) && okB all rest (listed.setIfInBounds i true)
  | .fork x y a b, listed => decide (Region.ready .any all.toArray listed = [x, y]) && (decide (a.size = b.size) && (okB all a (listed.setIfInBounds x true) && okB all b (listed.setIfInBounds y true)))
  | .fork3 x y z a b c, listed => decide (Region.ready .any all.toArray listed = [x, y, z]) && (decide (a.size = b.size) && (decide (a.size = c.size) && (okB all a (listed.setIfInBounds x true) && (okB all b (listed.setIfInBounds y true) && okB all c (listed.setIfInBounds z true)))))
theorem load_old {t : TypeId} {v : Value} {h h' : Heap} {K : Value → Heap → Prop} (ho : oldP m v) (hR : RB m h h') (H : loadW P t v h K) : ∃ x, K x h ∧ loadW P t v h' (fun y _ => y = x) := by
  unfold loadW at H ⊢
  split at H
  case h_2 => exact H.elim
  rename_i p
  have hc : cellH h' p = cellH h p := by
    cases p with
    | none => rfl
    | some a => unfold cellH; simp only [hR.2 a.block ho]
  have hcs : ∀ n, cellsH h' p n = cellsH h p n := by
    intro n
    cases p with
    | none => rfl
    | some a => unfold cellsH; simp only [hR.2 a.block ho]
  cases hag : aggT P t with
  | none => simp [hag] at H
  | some b =>
    simp only [hag] at H ⊢
    cases b with
    | true =>
      obtain ⟨hi, H⟩ := H
      rw [onC_iff] at H
      obtain ⟨cs, h1, h2⟩ := H
      exact ⟨_, h2, hi, onC_iff.2 ⟨cs, (hcs _).trans h1, rfl⟩⟩
    | false =>
      simp only at H ⊢
      rw [onV_iff] at H
      obtain ⟨x, h1, h2⟩ := H
      exact ⟨_, h2, onV_iff.2 ⟨x, hc.trans h1, rfl⟩⟩
theorem ldB_sound {o : Op} {e : Env} {h : Heap} {K : Value → Heap → Prop} (H : ldB P m o e h K) : noDefer o = true ∧ ∃ v, K v h ∧ ∀ (ty : TypeId) (w : World), RB m h w.heap → (execOp (ev e) { dst := none, op := o, type := ty, pos := "", after := #[], guard := none }).run P w = .ok (.value v) w := by
  unfold ldB at H
  split at H
  · rename_i t x
    obtain ⟨ho, H⟩ := H
    obtain ⟨x0, hk, _⟩ := load_old ho (RB.refl m h) H
    refine ⟨rfl, ?_⟩
    have key : ∀ h', RB m h h' → ∃ y, K y h ∧ loadW P t (ev e x) h' (fun z _ => z = y) := fun h' hR => load_old ho hR H
    obtain ⟨y, hy, hl⟩ := key h (RB.refl m h)
    refine ⟨y, hy, fun ty w hR => ?_⟩
    have : loadW P t (ev e x) h (fun z _ => z = y) := hl
    obtain ⟨z, rfl, hz⟩ := load_old ho hR this
    obtain ⟨u, rfl, hr⟩ := load_sound hz
    have := hr w rfl
    simp only [execOp, Sem.run_bind, this, Result.andThen_ok, Sem.run_pure]
  · exact H.elim
theorem execB_sound {all : List Oper} {k : Cont} {w0 : World} (hsel : Region.noSelect all.toArray = true) : ∀ (t : PB) (listed : Array Bool) (e : Env) (d : List Deferred) (w : World), Rest w0 w →
    okB all t listed = true → execB P m all t k e d w.heap →
    anyB P all.toArray (RB m) (fun _ => true) (fun a w' => k .normal a.tmps.toList a.defers w'.heap ∧ Rest w0 w') t.size listed ⟨e.toArray, d⟩ w
  | .fin, listed, e, d, w, hr, hok, H => fun w1 hr1 hR1 => by
    refine ⟨by simpa [okB] using hok, ?_, hr.trans hr1⟩
    rw [show w1.heap = w.heap from hR1]
    unfold execB at H
    simpa using H
  | .load i rest, listed, e, d, w, hr, hok, H => by
    simp only [okB, Bool.and_eq_true] at hok
    obtain ⟨⟨⟨hready, hbk⟩, hG⟩, hok⟩ := hok
    unfold execB at H
    cases hi : all[i]? with
    | none => simp [hi] at H
    | some o =>
      simp only [hi] at H
      have hi' : all.toArray[i]? = some o := by simpa using hi
      obtain ⟨Bk, hBke⟩ : ∃ Bk, Bk = blk all listed i all.length 0 [] := ⟨_, rfl⟩
      rw [← hBke] at hbk hG
      have hb1 : ∀ j ∈ Bk, listed.getD j true = false := fun j hj => by
        have := List.all_eq_true.1 hbk j hj
        simp only [Bool.and_eq_true, Bool.not_eq_true'] at this
        exact this.1.1
      have hb2 : ∀ j ∈ Bk, j ≠ i ∧ ∀ oj, all.toArray[j]? = some oj → ∃ e ∈ oj.after, Region.binds .any e = true ∧ (e.on = i ∨ e.on ∈ Bk) := fun j hj => by
        have := List.all_eq_true.1 hbk j hj
        simp only [Bool.and_eq_true, bne_iff_ne, ne_eq] at this
        refine ⟨this.1.2, fun oj hoj => ?_⟩
        have hj2 : all[j]? = some oj := by simpa using hoj
        have h2 := this.2
        rw [hj2] at h2
        obtain ⟨e, he, hb⟩ := Array.any_eq_true'.1 h2
        simp only [Bool.and_eq_true, Bool.or_eq_true, beq_iff_eq, List.contains_eq_mem, decide_eq_true_eq] at hb
        exact ⟨e, he, hb.1, hb.2⟩
      have hfr : ∀ j oj, all.toArray[j]? = some oj → j ≠ i → listed.getD j true = false → j ∉ Bk → o.apart all.toArray oj = true := by
        intro j oj hj hne hun hno
        have hlt : j < all.length := by have := (Array.getElem?_eq_some_iff.1 hj).1; simpa using this
        have := List.all_eq_true.1 hG j (List.mem_range.2 hlt)
        have hj2 : all[j]? = some oj := by simpa using hj
        simp only [hi, hj2, Bool.or_eq_true, Bool.and_eq_true, beq_iff_eq, hne, false_or, hun, Bool.false_eq_true, List.contains_eq_mem, decide_eq_true_eq, hno] at this
        exact this
      have hrdy : i ∈ Region.ready .any all.toArray listed := by simpa using hready
      rcases guard_sound H o rfl with ⟨hw, hA⟩ | ⟨hw, hB⟩
      · obtain ⟨hd, v, hk, hv⟩ := ldB_sound hA
        refine anyB_first (pre_RB m) hi' (Region.noSelect_spec hsel) Bk hb2 rest.size listed _ w (fun j oj a b c d => ⟨hfr j oj a b c d, rfl⟩) hb1 hrdy (v := v) ?_ ?_
        · refine .inl ⟨hw, fun w' hr' hR => ⟨hd, ?_⟩⟩
          rw [eval_ev, execOp_only, hv _ w' hR]
          exact ⟨⟨rfl, rfl⟩, Rest.refl _⟩
        · rw [put_putE]
          exact execB_sound hsel rest _ _ d w hr hok hk
      · refine anyB_first (pre_RB m) hi' (Region.noSelect_spec hsel) Bk hb2 rest.size listed _ w (fun j oj a b c d => ⟨hfr j oj a b c d, rfl⟩) hb1 hrdy (v := undef) (.inr ⟨hw, rfl⟩) ?_
        rw [put_putE]
        exact execB_sound hsel rest _ _ d w hr hok hB
  | .pure i rest, listed, e, d, w, hr, hok, H => by
    simp only [okB, Bool.and_eq_true] at hok
    obtain ⟨⟨⟨hready, hbk⟩, hG⟩, hok⟩ := hok
    unfold execB at H
    cases hi : all[i]? with
    | none => simp [hi] at H
    | some o =>
      simp only [hi] at H
      have hi' : all.toArray[i]? = some o := by simpa using hi
      obtain ⟨Bk, hBke⟩ : ∃ Bk, Bk = blk all listed i all.length 0 [] := ⟨_, rfl⟩
      rw [← hBke] at hbk hG
      have hb1 : ∀ j ∈ Bk, listed.getD j true = false := fun j hj => by
        have := List.all_eq_true.1 hbk j hj
        simp only [Bool.and_eq_true, Bool.not_eq_true'] at this
        exact this.1.1
      have hb2 : ∀ j ∈ Bk, j ≠ i ∧ ∀ oj, all.toArray[j]? = some oj → ∃ e ∈ oj.after, Region.binds .any e = true ∧ (e.on = i ∨ e.on ∈ Bk) := fun j hj => by
        have := List.all_eq_true.1 hbk j hj
        simp only [Bool.and_eq_true, bne_iff_ne, ne_eq] at this
        refine ⟨this.1.2, fun oj hoj => ?_⟩
        have hj2 : all[j]? = some oj := by simpa using hoj
        have h2 := this.2
        rw [hj2] at h2
        obtain ⟨e, he, hb⟩ := Array.any_eq_true'.1 h2
        simp only [Bool.and_eq_true, Bool.or_eq_true, beq_iff_eq, List.contains_eq_mem, decide_eq_true_eq] at hb
        exact ⟨e, he, hb.1, hb.2⟩
      have hfr : ∀ j oj, all.toArray[j]? = some oj → j ≠ i → listed.getD j true = false → j ∉ Bk → o.apart all.toArray oj = true := by
        intro j oj hj hne hun hno
        have hlt : j < all.length := by have := (Array.getElem?_eq_some_iff.1 hj).1; simpa using this
        have := List.all_eq_true.1 hG j (List.mem_range.2 hlt)
        have hj2 : all[j]? = some oj := by simpa using hj
        simp only [hi, hj2, Bool.or_eq_true, Bool.and_eq_true, beq_iff_eq, hne, false_or, hun, Bool.false_eq_true, List.contains_eq_mem, decide_eq_true_eq, hno] at this
        exact this
      have hrdy : i ∈ Region.ready .any all.toArray listed := by simpa using hready
      rcases guard_sound H o rfl with ⟨hw, hA⟩ | ⟨hw, hB⟩
      · obtain ⟨hd, v, hk, hv⟩ := opPW_sound (ty := o.type) hA
        refine anyB_firstP (pre_RB m) hi' (Region.noSelect_spec hsel) Bk hb2 rest.size listed _ w hfr hb1 hrdy (v := v) ?_ ?_
        · refine .inl ⟨hw, fun w' hr' => ⟨hd, ?_⟩⟩
          rw [eval_ev, execOp_only, hv w']
          exact ⟨⟨rfl, rfl⟩, Rest.refl _⟩
        · rw [put_putE]
          exact execB_sound hsel rest _ _ d w hr hok hk
      · refine anyB_firstP (pre_RB m) hi' (Region.noSelect_spec hsel) Bk hb2 rest.size listed _ w hfr hb1 hrdy (v := undef) (.inr ⟨hw, rfl⟩) ?_
        rw [put_putE]
        exact execB_sound hsel rest _ _ d w hr hok hB
  | .keep i rest, listed, e, d, w, hr, hok, H => by
    intro w1 hr1 hR1
    simp only [okB, Bool.and_eq_true, decide_eq_true_eq] at hok
    obtain ⟨h1, hok⟩ := hok
    unfold execB at H
    rw [← show w1.heap = w.heap from hR1] at H
    rw [h1]
    refine ⟨fun h => by simp at h, fun q hq => ?_⟩
    have hq : q = i := by simpa using hq
    subst hq
    refine stO_sound (G := fun _ => true) (Kx := fun e h'' => execB P m all rest k e d h'') (stO_mono H fun e h hk => ⟨fun _ => hk.1, hk.2⟩) fun e2 w2 hr2 K2 => ?_
    exact execB_sound hsel rest _ _ d w2 (hr.trans (hr1.trans hr2)) hok K2
  | .fork x y a b, listed, e, d, w, hr, hok, H => by
    intro w1 hr1 hR1
    simp only [okB, Bool.and_eq_true, decide_eq_true_eq] at hok
    obtain ⟨h1, h2, o1, o2⟩ := hok
    unfold execB at H
    rw [← show w1.heap = w.heap from hR1] at H
    obtain ⟨A, B⟩ := H
    rw [h1]
    refine ⟨fun h => by simp at h, fun q hq => ?_⟩
    have hq : q = x ∨ q = y := by simpa using hq
    rcases hq with rfl | rfl
    · refine stO_sound (G := fun _ => true) (Kx := fun e h'' => execB P m all a k e d h'') (stO_mono A fun e h hk => ⟨fun _ => hk.1, hk.2⟩) fun e2 w2 hr2 K2 => ?_
      exact execB_sound hsel a _ _ d w2 (hr.trans (hr1.trans hr2)) o1 K2
    · refine stO_sound (G := fun _ => true) (Kx := fun e h'' => execB P m all b k e d h'') (stO_mono B fun e h hk => ⟨fun _ => hk.1, hk.2⟩) fun e2 w2 hr2 K2 => ?_
      have := execB_sound (w0 := w0) hsel b _ _ d w2 (hr.trans (hr1.trans hr2)) o2 K2
      rw [← h2] at this
      exact this
  | .fork3 x y z a b c, listed, e, d, w, hr, hok, H => by
    intro w1 hr1 hR1
    simp only [okB, Bool.and_eq_true, decide_eq_true_eq] at hok
    obtain ⟨h1, h2, h3, o1, o2, o3⟩ := hok
    unfold execB at H
    rw [← show w1.heap = w.heap from hR1] at H
    obtain ⟨A, B, C⟩ := H
    rw [h1]
    refine ⟨fun h => by simp at h, fun q hq => ?_⟩
    have hq : q = x ∨ q = y ∨ q = z := by simpa using hq
    rcases hq with rfl | rfl | rfl
    · refine stO_sound (G := fun _ => true) (Kx := fun e h'' => execB P m all a k e d h'') (stO_mono A fun e h hk => ⟨fun _ => hk.1, hk.2⟩) fun e2 w2 hr2 K2 => ?_
      exact execB_sound hsel a _ _ d w2 (hr.trans (hr1.trans hr2)) o1 K2
    · refine stO_sound (G := fun _ => true) (Kx := fun e h'' => execB P m all b k e d h'') (stO_mono B fun e h hk => ⟨fun _ => hk.1, hk.2⟩) fun e2 w2 hr2 K2 => ?_
      have := execB_sound (w0 := w0) hsel b _ _ d w2 (hr.trans (hr1.trans hr2)) o2 K2
      rw [← h2] at this
      exact this
    · refine stO_sound (G := fun _ => true) (Kx := fun e h'' => execB P m all c k e d h'') (stO_mono C fun e h hk => ⟨fun _ => hk.1, hk.2⟩) fun e2 w2 hr2 K2 => ?_
      have := execB_sound (w0 := w0) hsel c _ _ d w2 (hr.trans (hr1.trans hr2)) o3 K2
      rw [← h3] at this
      exact this
theorem WP_treeB (hm : P.follows .mixedOrders = true) (m : Nat) {id : Nat} {all : List Oper} {k : Cont} {e : Env} {d : List Deferred} {h : Heap} (t : PB)
    (hsel : Region.noSelect all.toArray = true) (hlen : t.size = all.length) (hok : okB all t (Array.replicate all.length false) = true)
    (H : execB P m all t k e d h) : WP l P (.region id all.toArray true) k e d h := by
  unfold WP
  intro w hw
  subst hw
  refine wpIn_region_any hm ?_
  have h1 := execB_sound (w0 := w) hsel t _ e d { w with drawn := w.drawn + 1 } ⟨rfl, rfl, rfl⟩ hok H
  rw [hlen] at h1
  have h2 := wpAny_of_anyB (l := l) (Q' := fun x a w' => k x a.tmps.toList a.defers w'.heap ∧ Rest w w') (fun a w' hq => hq) _ _ _ _ h1
  simpa using h2
variable {all : List Oper} {rest : PB} {k : Cont} {e : Env} {d : List Deferred} {h : Heap} {dst : Option Tmp} {op : Op} {ty : TypeId} {pos : String} {after : Array Edge} {i x y z : Nat} {a b c : PB}
def setB (P : Program) (m : Nat) (all : List Oper) (rest : PB) (k : Cont) (dst : Option Tmp) (e : Env) (d : List Deferred) : Value → Heap → Prop := fun v h => execB P m all rest k (putE e dst v) d h
theorem setB_eq {v : Value} : setB P m all rest k dst e d v h = execB P m all rest k (putE e dst v) d h := eqi rfl
def stBl (P : Program) (m : Nat) (o : Option Oper) (all : List Oper) (rest : PB) (k : Cont) (e : Env) (d : List Deferred) (h : Heap) : Prop :=
  match o with
  | some o => guardW o.guard all e (fun e => ldB P m o.op e h (fun v h' => setB P m all rest k o.dst e d v h')) (fun e => execB P m all rest k (putE e o.dst undef) d h)
  | none => False
def stBp (P : Program) (m : Nat) (o : Option Oper) (all : List Oper) (rest : PB) (k : Cont) (e : Env) (d : List Deferred) (h : Heap) : Prop :=
  match o with
  | some o => guardW o.guard all e (fun e => opPW P o.op e h (fun v h' => setB P m all rest k o.dst e d v h')) (fun e => execB P m all rest k (putE e o.dst undef) d h)
  | none => False
theorem execB_fin : execB P m all .fin k e d h = k .normal e d h := eqi rfl
theorem execB_load : execB P m all (.load i rest) k e d h = stBl P m all[i]? all rest k e d h := by simp only [execB, stBl, setB]
theorem execB_pure : execB P m all (.pure i rest) k e d h = stBp P m all[i]? all rest k e d h := by simp only [execB, stBp, setB]
def gB (v : Value) (s : Tmp) (want : Bool) (F : Env → Prop) (all : List Oper) (P : Program) (m : Nat) (rest : PB) (k : Cont) (dst : Option Tmp) (e : Env) (d : List Deferred) (h : Heap) : Prop :=
  boolW v (fun b => if b = want then F (e.set s (.bool b)) else execB P m all rest k (putE (e.set s (.bool b)) dst undef) d h) (execB P m all rest k (putE e dst undef) d h)
def gBo (s : Option Tmp) (want : Bool) (F : Env → Prop) (all : List Oper) (P : Program) (m : Nat) (rest : PB) (k : Cont) (dst : Option Tmp) (e : Env) (d : List Deferred) (h : Heap) : Prop :=
  match s with | some s => gB (e.getD s undef) s want F all P m rest k dst e d h | none => execB P m all rest k (putE e dst undef) d h
theorem ldB_load {t : TypeId} {x : Operand} {K : Value → Heap → Prop} : ldB P m (.load t x) e h K = (oldP m (ev e x) ∧ loadW P t (ev e x) h K) := eqi rfl
theorem oldP_ptr {b o : Nat} {s : _} : oldP m (.pointer (some ⟨b, o, s⟩)) = (b < m) := eqi rfl
theorem stBl_plain : stBl P m (some ⟨dst, op, ty, pos, after, none⟩) all rest k e d h = ldB P m op e h (setB P m all rest k dst e d) := by simp only [stBl, guardW]
theorem stBp_plain : stBp P m (some ⟨dst, op, ty, pos, after, none⟩) all rest k e d h = opPW P op e h (setB P m all rest k dst e d) := by simp only [stBp, guardW]
theorem stBl_guard {j : Nat} {want : Bool} : stBl P m (some ⟨dst, op, ty, pos, after, some (j, want)⟩) all rest k e d h = gBo (gslot all j) want (fun e => ldB P m op e h (setB P m all rest k dst e d)) all P m rest k dst e d h := by
  simp only [stBl, guardW, gBo]; cases gslot all j <;> rfl
theorem stBp_guard {j : Nat} {want : Bool} : stBp P m (some ⟨dst, op, ty, pos, after, some (j, want)⟩) all rest k e d h = gBo (gslot all j) want (fun e => opPW P op e h (setB P m all rest k dst e d)) all P m rest k dst e d h := by
  simp only [stBp, guardW, gBo]; cases gslot all j <;> rfl
theorem gBo_some {s : Tmp} {want : Bool} {F : Env → Prop} : gBo (some s) want F all P m rest k dst e d h = gB (e.getD s undef) s want F all P m rest k dst e d h := eqi rfl
theorem gB_tt {s : Tmp} {F : Env → Prop} : gB (.bool true) s true F all P m rest k dst e d h = F (e.set s (.bool true)) := by simp [gB, boolW]
theorem gB_ff {s : Tmp} {F : Env → Prop} : gB (.bool false) s false F all P m rest k dst e d h = F (e.set s (.bool false)) := by simp [gB, boolW]
theorem gB_tf {s : Tmp} {F : Env → Prop} : gB (.bool true) s false F all P m rest k dst e d h = execB P m all rest k (putE (e.set s (.bool true)) dst undef) d h := by simp [gB, boolW]
theorem gB_ft {s : Tmp} {F : Env → Prop} : gB (.bool false) s true F all P m rest k dst e d h = execB P m all rest k (putE (e.set s (.bool false)) dst undef) d h := by simp [gB, boolW]
theorem gB_undef {s : Tmp} {w : Bool} {vs : Array Value} {F : Env → Prop} : gB (.tuple vs) s w F all P m rest k dst e d h = execB P m all rest k (putE e dst undef) d h := by simp [gB, boolW]
theorem execB_keep (H : stO P all all[i]? e h (fun e h'' => RB m h h'' ∧ execB P m all rest k e d h'')) : execB P m all (.keep i rest) k e d h := H
theorem execB_fork (A : stO P all all[x]? e h (fun e h'' => RB m h h'' ∧ execB P m all a k e d h'')) (B : stO P all all[y]? e h (fun e h'' => RB m h h'' ∧ execB P m all b k e d h'')) : execB P m all (.fork x y a b) k e d h := ⟨A, B⟩
set_option linter.defProp false
def treeB := And.intro (And.intro (And.intro @execB_fin (And.intro @execB_load @execB_pure)) (And.intro (And.intro @stBl_plain @stBp_plain) (And.intro @stBl_guard @stBp_guard)))
  (And.intro (And.intro (And.intro @gBo_some @setB_eq) (And.intro @ldB_load @oldP_ptr)) (And.intro (And.intro @gB_tt @gB_ff) (And.intro @gB_tf (And.intro @gB_ft @gB_undef))))
end treeB
end Go.Eng
end
section
namespace Go.Proofs.Ytmgkeeefbfefgaa
open Go Go.Proofs Go.Eng Go.Run Tab
set_option maxRecDepth 100000
set_option linter.unusedSimpArgs false
set_option linter.unusedVariables false
set_option linter.defProp false
set_option maxHeartbeats 1000000
theorem apfW {h : Eng.Heap} {er : Env} {ty : TypeId} {x y : Operand} {g : Nat} {b : Option Addr} {m c : Nat} {ys : List Wn} {K : Value → Eng.Heap → Prop} (hx : ev er x = .slice (some ⟨g, 0, none⟩) 0 0) (hy : ev er y = .slice b m c) (q2 : h[g]? = some (.cells #[] 58)) (I : Row h b (wsV ys)) (hm : ys.length = m) (hb : m ≤ 1000)
    (H : ∀ a' cap' h', OwnV g h' 58 2 a' m cap' (wsV ys) → Ext h h' → K (.slice a' m cap') h') : opSem Try.prog (.call ⟨.builtin .append, #[x, y], #[22, 22]⟩) ty er h K :=
  append_freshT Try.underlying22 Try.underlying22 inf58 sz58 zero58 (by rfl) hx hy q2 I (by rw [wsV_length, hm]) wsV_one (by omega) (by rw [by58]; omega) H
theorem apW {h : Eng.Heap} {er : Env} {ty : TypeId} {x y : Operand} {m0 : Nat} {a b : Option Addr} {len cap m c : Nat} {xs : List Value} {us : List Wn} {K : Value → Eng.Heap → Prop} (hx : ev er x = .slice a len cap) (hy : ev er y = .slice b m c) (O : OwnV m0 h 58 2 a len cap xs) (h0h : m0 ≤ h.size) (I : Row h b (wsV us)) (hm : us.length = m) (hb : len + m ≤ 1000)
    (H : ∀ a' cap' h', OwnV m0 h' 58 2 a' (len + m) cap' (xs ++ wsV us) → App h h' a a' → K (.slice a' (len + m) cap') h') : opSem Try.prog (.call ⟨.builtin .append, #[x, y], #[22, 22]⟩) ty er h K :=
  append_valsT Try.underlying22 Try.underlying22 inf58 sz58 zero58 (by rfl) hx hy O h0h I (by rw [wsV_length, hm]) wsV_one (by omega) (by rw [by58]; omega) H
theorem App.rbV {h h' : Eng.Heap} {a a' : Option Addr} {el : TypeId} {s len cap m m0 : Nat} {vs : List Value} (A : App h h' a a') (O : OwnV m h el s a len cap vs) (hm : m0 ≤ m) (hh : m0 ≤ h.size) : RB m0 h h' :=
  ⟨A.size, fun b hb => A.old b (by omega) fun p hp => by have := (O.lt hp).2; omega⟩
theorem OwnV.apart {h : Eng.Heap} {a : Option Addr} {el ct : TypeId} {s len cap m b : Nat} {vs : List Value} {c : Array Value} {fr : Nat × Nat} (O : OwnV m h el s a len cap vs) (T : h[b]? = some (.cells c ct fr)) (hne : ct ≠ el) : ∀ p, a = some p → p.block ≠ b := by
  rintro p hp rfl
  rcases O.ok with ⟨h1, _⟩ | ⟨g, cur, h1, _, h3, _⟩
  · rw [h1] at hp; cases hp
  · rw [h1] at hp
    cases hp
    rw [h3] at T
    cases T
    exact hne rfl
theorem row_at {h : Eng.Heap} {b : Nat} {vs cs : List Value} {ct : TypeId} (he : vs = cs) (hb : h[b]? = some (.cells vs.toArray ct)) : Row h (some ⟨b, 0, none⟩) cs := by
  subst he
  exact .inr ⟨b, 0, vs.toArray, ct, _, rfl, hb, by simp, by simp⟩
end Go.Proofs.Ytmgkeeefbfefgaa
end
section
namespace Go.Proofs.Ytmgkeeefbfefgaa
open Go Go.Proofs Go.Eng Tab Go.ChangeShapes Go.WideShapes Go.ChangeAt Go.RowKit
set_option maxRecDepth 100000
set_option linter.unusedSimpArgs false
set_option linter.unusedVariables false
theorem row_of {W : World} {a : Addr} {vs : List Value} (hc : ∀ i (hi : i < vs.length), W.cell? (a.add i) = some vs[i]) : Row W.heap (some a) vs := by
  by_cases hn : vs.length = 0
  · left; exact List.eq_nil_of_length_eq_zero hn
  right
  have key : ∀ i u, W.cell? (a.add i) = some u → (i = 0 → a.spot = none) ∧ ∃ cur ct fr, W.heap[a.block]? = some (.cells cur ct fr) ∧ cur[a.off + i]? = some u := by
    intro i u hu
    unfold World.cell? Addr.add at hu
    by_cases hi : i = 0
    · subst hi
      simp only [if_true] at hu
      split at hu <;> simp_all
    · simp only [hi, if_false] at hu
      split at hu <;> simp_all
  obtain ⟨hsp, cur, ct, fr, hb, _⟩ := key 0 _ (hc 0 (by omega))
  have hcur : ∀ i (hi : i < vs.length), cur[a.off + i]? = some vs[i] := fun i hi => by
    obtain ⟨_, cur2, ct2, fr2, hb2, hc2⟩ := key i _ (hc i hi)
    rw [hb] at hb2
    cases hb2
    exact hc2
  have hsz : a.off + vs.length ≤ cur.size := by
    have := hcur (vs.length - 1) (by omega)
    have := (Array.getElem?_eq_some_iff.1 this).1
    omega
  obtain ⟨b, off, spot⟩ := a
  replace hsp := hsp rfl
  simp only at hsp hb hcur hsz
  subst hsp
  refine ⟨b, off, cur, ct, fr, rfl, hb, hsz, ?_⟩
  apply List.ext_getElem?
  intro i
  rw [List.getElem?_take, List.getElem?_drop]
  by_cases hi : i < vs.length
  · rw [if_pos hi, Array.getElem?_toList, hcur i hi, List.getElem?_eq_getElem hi]
  · rw [if_neg hi, List.getElem?_eq_none (by omega)]
theorem list_choose {α : Type} {p : Nat → α → Prop} : ∀ n, (∀ i < n, ∃ x, p i x) → ∃ l : List α, l.length = n ∧ ∀ i (hi : i < l.length), p i l[i]
  | 0, _ => ⟨[], rfl, fun i hi => by simp at hi⟩
  | n + 1, H => by
    obtain ⟨l, hl, h⟩ := list_choose n fun i hi => H i (by omega)
    obtain ⟨x, hx⟩ := H n (by omega)
    refine ⟨l ++ [x], by simp [hl], fun i hi => ?_⟩
    by_cases hin : i < l.length
    · rw [List.getElem_append_left hin]; exact h i hin
    · have : i = l.length := by simp at hi; omega
      subst this
      rw [List.getElem_append_right (Nat.le_refl _)]
      simpa [hl] using hx
section opens
variable {H : Type} {enc : TypeId × Value → H} {W : World} {base b0 : Nat} {r : Reach} {sp : Nat → Bool} {held : Bool} {v : Value} {d : DataW H} {ps : List MemPlace}
theorem cel3 : Try.prog.cellsOf 3 = 1 := by kernel_rfl
theorem cel22 : Try.prog.cellsOf 22 = 1 := by kernel_rfl
theorem cel24 : Try.prog.cellsOf 24 = 3 := by kernel_rfl
theorem cel58 : Try.prog.cellsOf 58 = 2 := by kernel_rfl
theorem wsV_at (es : List Wn) (j k : Nat) (hj : j < es.length) (hk : k < 2) : (wsV es)[j * 2 + k]? = (wnV es[j])[k]? := by
  have h := wsV_get es j hj
  have : (((wsV es).drop (j * 2)).take 2)[k]? = (wnV es[j])[k]? := by rw [h]
  rwa [List.getElem?_take, if_pos hk, List.getElem?_drop] at this
theorem trod_wn {fuel : Nat} {cs : List Value} {x : DataW H × List MemPlace} (h : DataW.trod enc Try.prog W base sp held fuel 58 cs = some x) : ∃ e : Wn, cs = wnV e := by
  obtain ⟨xs, n, rfl, rfl, hl, hxl, hf⟩ := DataW.trod_struct Try.underlying58 h
  rw [cel58] at hl
  obtain ⟨c0, c1, rfl⟩ : ∃ c0 c1, cs = [c0, c1] := by
    match cs, hl with
    | [c0, c1], _ => exact ⟨_, _, rfl⟩
  obtain ⟨y0, y1, rfl⟩ : ∃ y0 y1, xs = [y0, y1] := by
    match xs, hxl with
    | [y0, y1], _ => exact ⟨_, _, rfl⟩
  have f0 : DataW.trod enc Try.prog W base sp held n 3 (([c0, c1].drop 0).take (Try.prog.cellsOf 3)) = some y0 := hf 0 _ rfl
  have f1 : DataW.trod enc Try.prog W base sp held n 3 (([c0, c1].drop 1).take (Try.prog.cellsOf 3)) = some y1 := hf 1 _ rfl
  rw [cel3] at f0 f1
  obtain ⟨n0, e0, _, w0⟩ := DataW.trod_int Try.underlying3 f0
  obtain ⟨n1, e1, _, w1⟩ := DataW.trod_int Try.underlying3 f1
  simp at e0 e1
  subst e0 e1
  exact ⟨⟨n0, n1⟩, rfl⟩
theorem trod_row {fuel : Nat} {cs : List Value} {x : DataW H × List MemPlace} (h : DataW.trod enc Try.prog W base sp held fuel 22 cs = some x) : ∃ a n c es, cs = [.slice a n c] ∧ Row W.heap a (wsV es) ∧ n = es.length := by
  rcases DataW.trod_slice Try.underlying22 h with ⟨rfl, _⟩ | ⟨a, len, cap, elems, rest, m, rfl, rfl, rfl, hb, hl, hm, hlen, hel, _, _⟩
  · exact ⟨none, 0, 0, [], rfl, .inl rfl, rfl⟩
  rw [cel58] at hel
  have each : ∀ i, i < len → ∃ e : Wn, ∀ k (hk : k < 2), W.cell? (a.add (i * 2 + k)) = (wnV e)[k]? := by
    intro i hi
    have h1 := hel i hi
    rw [List.getElem?_eq_getElem (by omega), Option.bind_eq_some_iff] at h1
    obtain ⟨cs, h2, h3⟩ := h1
    obtain ⟨e, rfl⟩ := trod_wn h3
    refine ⟨e, fun k hk => ?_⟩
    have h4 := (World.cells?_some h2).2.2 k hk
    rw [← h4]
    congr 1
    unfold Addr.add
    split <;> split <;> split <;> simp_all <;> omega
  obtain ⟨es, hes, hE⟩ := list_choose len each
  refine ⟨some a, len, cap, es, rfl, row_of fun i hi => ?_, hes.symm⟩
  rw [wsV_length] at hi
  have h1 := hE (i / 2) (by omega) (i % 2) (by omega)
  rw [show i / 2 * 2 + i % 2 = i by omega] at h1
  rw [h1, ← wsV_at es (i / 2) (i % 2) (by omega) (by omega), show i / 2 * 2 + i % 2 = i by omega, List.getElem?_eq_getElem (by rw [wsV_length]; omega)]
theorem open_book (hval : Value.okWide Try.prog W r b0 24 v) (hd : DataW.Trod enc Try.prog W base sp held 24 v d ps) : ∃ ac cl a n c es, v = .agg #[.int .i64 ac, .int .i64 cl, .slice a n c] ∧ Row W.heap a (wsV es) ∧ n = es.length := by
  obtain ⟨cs, rfl, hs⟩ := okWide_struct Try.underlying24 hval
  obtain ⟨fuel, hf⟩ := hd
  obtain ⟨xs, n, rfl, _, hl, hxl, hf⟩ := DataW.trod_struct Try.underlying24 hf
  rw [cel24] at hl
  simp only [Value.cells] at hl hf
  obtain ⟨cs⟩ := cs
  simp only at hl hf
  obtain ⟨c0, c1, c2, rfl⟩ : ∃ c0 c1 c2, cs = [c0, c1, c2] := by
    match cs, hl with
    | [c0, c1, c2], _ => exact ⟨_, _, _, rfl⟩
  obtain ⟨y0, y1, y2, rfl⟩ : ∃ y0 y1 y2, xs = [y0, y1, y2] := by
    match xs, hxl with
    | [y0, y1, y2], _ => exact ⟨_, _, _, rfl⟩
  have f0 : DataW.trod enc Try.prog W base sp held n 3 (([c0, c1, c2].drop 0).take (Try.prog.cellsOf 3)) = some y0 := hf 0 _ rfl
  have f1 : DataW.trod enc Try.prog W base sp held n 3 (([c0, c1, c2].drop 1).take (Try.prog.cellsOf 3)) = some y1 := hf 1 _ rfl
  have f2 : DataW.trod enc Try.prog W base sp held n 22 (([c0, c1, c2].drop 2).take (Try.prog.cellsOf 22)) = some y2 := hf 2 _ rfl
  rw [cel3] at f0 f1
  rw [cel22] at f2
  obtain ⟨n0, e0, _, w0⟩ := DataW.trod_int Try.underlying3 f0
  obtain ⟨n1, e1, _, w1⟩ := DataW.trod_int Try.underlying3 f1
  obtain ⟨a, m, c, es, e2, hr, hm⟩ := trod_row f2
  simp at e0 e1 e2
  subst e0 e1 e2
  exact ⟨n0, n1, a, m, c, es, rfl, hr, hm⟩
end opens
end Go.Proofs.Ytmgkeeefbfefgaa
end
