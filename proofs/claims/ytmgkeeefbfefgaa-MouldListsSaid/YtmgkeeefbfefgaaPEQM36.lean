/- Walks: alternating. -/
import Derived.Test.YtmgkeeefbfefgaaPEQM35
import Derived.Test.YtmgkeeefbfefgaaPE12
namespace Go.Proofs.Ytmgkeeefbfefgaa
open Go Go.Proofs Go.Eng Go.Run Tab
set_option maxRecDepth 100000
set_option linter.unusedSimpArgs false
set_option linter.unusedVariables false
set_option linter.defProp false
set_option maxHeartbeats 4000000
set_option linter.defProp false
def M36Fs72 := (And.intro (And.intro (And.intro (And.intro @agg22 @agg3) (And.intro @by3 @by58)) (And.intro (And.intro @fo24_0 @fo24_1) (And.intro @fo24_2 (And.intro @fo58_0 @fo99_0)))) (And.intro (And.intro (And.intro @inf22 @inf3) (And.intro @inf58 @sz22)) (And.intro (And.intro @sz3 @sz58) (And.intro @zero3 (And.intro @Try.underlying22 @Try.underlying25)))))
/-- Of no block in common. -/
def Dis (a b : Option Addr) : Prop := ∀ p q, a = some p → b = some q → p.block ≠ q.block
theorem Dis.no (a : Option Addr) : Dis a none := fun p q _ h => by cases h
theorem Dis.no' (a : Option Addr) : Dis none a := fun p q h _ => by cases h
theorem Dis.comm {a b : Option Addr} (D : Dis a b) : Dis b a := fun p q h1 h2 e => D q p h2 h1 e.symm
/-- One of two lists grows. -/
theorem App.two {h h' : Eng.Heap} {a a' b : Option Addr} {m len cap : Nat} {xs : List Int} (A : App h h' a a') (O : OwnI m h 3 b len cap xs) (D : Dis a b) : OwnI m h' 3 b len cap xs ∧ Dis a' b := by
  refine ⟨O.keep fun p hp => A.old _ (O.lt hp).1 fun q hq => D q p hq hp, fun p q hp hq => ?_⟩
  rcases A.to p hp with ⟨q0, h1, h2⟩ | h1
  · rw [← h2]; exact D q0 q h1 hq
  · have := (O.lt hq).1; omega
/-- The number of the match by moulds that are of a shop. -/
theorem served_zero {sh : Nat → Nat} {M : Nat} {t : MB.St} {s : Nat} : MB.served sh M t s = 0 ↔ ∀ m i, m < M → t.by_ m = some i → sh i ≠ s := by
  unfold MB.served MB.cnt
  rw [List.length_eq_zero_iff, List.filter_eq_nil_iff]
  constructor
  · intro h m i hm hi e
    have := h m (List.mem_range.2 hm)
    rw [MB.isOf_iff] at this
    exact this ⟨i, hi, e⟩
  · intro h m hm hh
    obtain ⟨i, h1, h2⟩ := MB.isOf_iff.1 hh
    exact h m i (List.mem_range.1 hm) h1 h2
/-- The shops that are not served, of the first ones. -/
def frS (sh : Nat → Nat) (M : Nat) (t : MB.St) (k : Nat) : List Nat := (List.range k).filter fun s => decide (MB.served sh M t s = 0)
theorem frS_next {sh : Nat → Nat} {M : Nat} {t : MB.St} {k : Nat} : frS sh M t (k + 1) = frS sh M t k ++ if MB.served sh M t k = 0 then [k] else [] := by
  unfold frS
  rw [List.range_succ, List.filter_append]
  congr 1
  by_cases h : MB.served sh M t k = 0
  · rw [if_pos h, List.filter_cons_of_pos (by simpa using h), List.filter_nil]
  · rw [if_neg h, List.filter_cons_of_neg (by simpa using h), List.filter_nil]
theorem frS_len {sh : Nat → Nat} {M : Nat} {t : MB.St} {k : Nat} : (frS sh M t k).length ≤ k := by
  have := List.length_filter_le (fun s => decide (MB.served sh M t s = 0)) (List.range k)
  rw [List.length_range] at this
  exact this
theorem Al.start {sh mo : Nat → Nat} {n M S : Nat} {st : MB.St} : MB.Al sh mo n M S st (frS sh M st S) [] 0 0 :=
  ⟨List.Pairwise.filter _ List.nodup_range, List.nodup_nil, fun s hs => by
    obtain ⟨h1, h2⟩ := List.mem_filter.1 hs
    exact ⟨List.mem_range.1 h1, .base s (of_decide_eq_true h2)⟩, fun m hm => absurd hm List.not_mem_nil, fun s hs h0 => List.mem_filter.2 ⟨List.mem_range.2 hs, by simpa using h0⟩, fun m i hm => absurd hm List.not_mem_nil, fun j hj => absurd hj (by omega), fun i hi _ h => absurd h (by omega)⟩
theorem born_inj {es : EntI} (hb : (es.map (·.2.2)).Pairwise (· < ·)) {x y : Nat × Value × Nat} (hx : x ∈ es) (hy : y ∈ es) (h : x.2.2 = y.2.2) : x = y := by
  obtain ⟨i, hi, rfl⟩ := List.getElem_of_mem hx
  obtain ⟨j, hj, rfl⟩ := List.getElem_of_mem hy
  rw [List.pairwise_map, List.pairwise_iff_getElem] at hb
  rcases Nat.lt_trichotomy i j with h1 | h1 | h1
  · have := hb i j hi hj h1; omega
  · subst h1; rfl
  · have := hb j i hj hi h1; omega
theorem match61K (g b S M : Nat) (a : Option Addr) (n c : Nat) (ws : List Wn) (aS : Option Addr) (k cS : Nat) (sm : List Nat) (h : Eng.Heap) (hg : DeskB h g b S M a n c) (hr : Row h a (wsV ws)) (hn : n = ws.length) (V : Vb S M ws) (hk : k = sm.length) (hs : IntsV h aS k (zsN sm)) (hsm : ∀ i ∈ sm, i < ws.length) (hsl : k ≤ 1000) :
    CallsH Try.prog 61 #[.pointer (some ⟨g, 0, none⟩), .slice aS k cS] h (fun v h' => (∃ mb es ce, v = .map (some mb) ∧ MapV kvI h' mb es ce ∧ ByR M es (MB.mst (shN ws) (moN ws) sm M S).by_) ∧ Ext h h') := by
  subst hk
  refine CallsH.mono (match61 g b S M a n c ws aS cS sm h hg hr hn V hs hsm hsl) ?_
  rintro v h1 ⟨⟨mb, es, ce, rfl, _, hM, hB⟩, x1⟩
  exact ⟨⟨mb, es, ce, rfl, hM, hB⟩, x1⟩
theorem alternating72 (g b S M : Nat) (a : Option Addr) (n c : Nat) (ws : List Wn) (h : Eng.Heap) (hg : DeskB h g b S M a n c) (hr : Row h a (wsV ws)) (hn : n = ws.length) (V : Vb S M ws) :
    CallsH Try.prog 72 #[.pointer (some ⟨g, 0, none⟩)] h (fun v h' => (∃ aX cX X aY cY Y, v = .tuple #[.slice aX X.length cX, .slice aY Y.length cY] ∧ OwnI h.size h' 3 aX X.length cX (zsN X) ∧ OwnI h.size h' 3 aY Y.length cY (zsN Y) ∧ Dis aX aY ∧ MB.Alt (shN ws) (moN ws) ws.length M S (MB.mst (shN ws) (moN ws) (List.range ws.length) M S) X Y) ∧ Ext h h') := by
  have hV := V.n
  have v1 := V.s1
  have v2 := V.s2
  have v3 := V.m1
  have v4 := V.m2
  have hgx : ∀ {hh : Eng.Heap}, Ext h hh → hh[g]? = some (.cells #[.int .i64 S, .int .i64 M, .slice a n c, .map (some b)] 99) := fun x => x.get hg
  have hg0 := hgx (Ext.refl h)
  (refine CallsH_of_exec Try.func72 rfl bod72 ?_; simp only [Try.ntmps72, Try.results72, coreS, stK_some, splice, Value.cells, Value.oneCell', Nat.reduceAdd, Nat.reduceSub, Nat.reduceMul, Nat.reduceLeDiff, Int.reduceEq, Nat.reduceEqDiff, M36Fs72])
  simp only [hg0, List.flatten_replicate_singleton, coreS, Value.cells, Value.oneCell', Nat.reduceAdd, Nat.reduceSub, Nat.reduceMul, Nat.reduceLeDiff, Int.reduceEq, Nat.reduceEqDiff, M36Fs72]
  refine ⟨by omega, by omega, by omega, by omega, ?_⟩
  obtain ⟨ff, hff⟩ : ∃ ff : Nat → List Int, ff = fun i => (List.range n).map fun j : Nat => if j < i then (j : Int) else 0 := ⟨_, rfl⟩
  have ffl : ∀ i, (ff i).length = n := fun i => by rw [hff]; simp
  have ff0 : List.replicate n (Value.int .i64 0) = Eng.ints (ff 0) := by
    rw [hff]; refine List.ext_getElem (by simp [Eng.ints]) fun j h1 h2 => ?_
    simp [Eng.ints]
  have ffn : ff n = zsN (List.range n) := by
    rw [hff]; refine List.ext_getElem (by simp [zsN]) fun j h1 h2 => ?_
    have : j < n := by simpa using h1
    simp [zsN, this]
  have ffs : ∀ i, i < n → (ff i).set i (i : Int) = ff (i + 1) := fun i hi => by
    rw [hff]; refine List.ext_getElem (by simp) fun j h1 h2 => ?_
    have : j < n := by simpa using h1
    rw [List.getElem_set]
    by_cases e : i = j
    · subst e; simp
    · simp only [e, if_false, List.getElem_map, List.getElem_range]
      by_cases h3 : j < i
      · simp [h3, Nat.lt_succ_of_lt h3]
      · rw [if_neg h3, if_neg (by omega)]
  rw [ff0]
  refine WP_loopI [5, 27, 28, 29, 30, 31, 32, 33, 34] (fun e h' => Upd (h.push (.cells (Eng.ints (ff 0)).toArray 3)) h' h.size ∧ ∃ i : Nat, i ≤ n ∧ e 27 = .int .i64 i ∧ h'[h.size]? = some (.cells (Eng.ints (ff i)).toArray 3)) (fun e _ => match e 27 with | .int _ q => n - q.toNat | _ => 0) ⟨⟨rfl, fun _ _ => rfl⟩, 0, by omega, rfl, push_new⟩ ?_
  rintro e h1 ⟨u3, i, hi, he, hc3⟩
  by_cases hin : i < n
  · have hlt : (i : Int) < (n : Int) := by omega
    simp only [he, hlt, hc3, decide_true, Int.toNat_natCast, coreS, Value.cells, Value.oneCell', Nat.reduceAdd, Nat.reduceSub, Nat.reduceMul, Nat.reduceLeDiff, Int.reduceEq, Nat.reduceEqDiff, M36Fs72]
    refine ⟨by omega, rfl, ?_⟩
    refine stK_abs (c := Eng.ints (ff i)) (vs := [.int .i64 i]) (off := i) hc3 (by rw [Eng.ints_length, ffl]; simp; omega) fun h4 g4 u4 => ?_
    rw [splice_one _ _ _ (by rw [Eng.ints_length, ffl]; exact hin), Eng.ints_set, ffs i hin] at g4
    simp only [he, coreS, Value.cells, Value.oneCell', Nat.reduceAdd, Nat.reduceSub, Nat.reduceMul, Nat.reduceLeDiff, Int.reduceEq, Nat.reduceEqDiff, M36Fs72]
    refine ⟨by rw [inK_i64]; omega, roundK_mk (by kernel_rfl) ⟨u3.trans u4, i + 1, by omega, rfl, g4⟩ ?_⟩
    show n - ((i : Int) + 1).toNat < n - (i : Int).toNat
    omega
  obtain rfl : i = n := by omega
  rw [ffn] at hc3
  have x1 : Ext h h1 := u3.ext ((Ext.refl h).push _) (Nat.le_refl _)
  have IL : IntsV h1 (some ⟨h.size, 0, none⟩) i (zsN (List.range i)) := by
    have := IntsV.block (xs := zsN (List.range i)) hc3
    rwa [zsN_length, List.length_range] at this
  have hg1 : DeskB h1 g b S M a i c := x1.get hg
  simp only [he, show ¬ ((i : Int) < (i : Int)) by omega, decide_false, coreS, Value.cells, Value.oneCell', Nat.reduceAdd, Nat.reduceSub, Nat.reduceMul, Nat.reduceLeDiff, Int.reduceEq, Nat.reduceEqDiff, M36Fs72]
  refine CallsH.mono (match61K g b S M a i c ws (some ⟨h.size, 0, none⟩) i i (List.range ws.length) h1 hg1 (hr.ext x1) hn V (by simp [hn]) (by rw [← hn]; exact IL) (fun k hk => List.mem_range.1 hk) (by omega)) ?_
  rintro v h2 ⟨⟨mb, es, ce, rfl, hM, hB⟩, x2⟩
  have y2 := x1.trans x2
  have I0 := (MB.match_inv (sh := shN ws) (mo := moN ws) (sm := List.range ws.length) (M := M) (fun k hk => (V.m (List.mem_range.1 hk)).2) S).inv
  obtain ⟨st, hst⟩ : ∃ st, st = MB.mst (shN ws) (moN ws) (List.range ws.length) M S := ⟨_, rfl⟩
  have II : MB.Inv (moN ws) (List.range ws.length) st := by rw [hst]; exact I0
  rw [← hst] at hB ⊢
  have hes : ∀ x ∈ es, ∃ k : Nat, st.by_ x.1 = some k ∧ x.2.1 = .int .i64 k ∧ k < ws.length ∧ x.1 < M := fun x hx => by
    have h1 := getA_mem hB.nd hx rfl
    rw [hB.get] at h1
    cases hb : st.by_ x.1 with
    | none => rw [hb] at h1; cases h1
    | some k =>
      rw [hb] at h1
      refine ⟨k, rfl, (Option.some.inj h1).symm, List.mem_range.1 (II.ok _ _ hb).1, hB.lt _ _ hb⟩
  have hget : ∀ m k, st.by_ m = some k → ∃ x ∈ es, x.1 = m := fun m k hk => by
    have h1 := hB.get m
    rw [hk] at h1
    obtain ⟨c0, hc⟩ := mem_getA h1
    exact ⟨_, hc, rfl⟩
  simp only [hgx y2, coreS, Value.cells, Value.oneCell', Nat.reduceAdd, Nat.reduceSub, Nat.reduceMul, Nat.reduceLeDiff, Int.reduceEq, Nat.reduceEqDiff, M36Fs72]
  refine WP_loopI [7, 9, 10, 12, 43, 44, 45, 46, 47, 48, 49, 50, 51, 52, 53, 54, 55, 56, 57, 58, 59, 60, 61, 62, 63, 64, 65, 66, 67, 68, 69, 70, 71, 72] (fun e h' => Ext h2 h' ∧ ∃ k : Nat, k ≤ S ∧ e 43 = .int .i64 k ∧ ∃ aX cX, e 7 = .slice aX (frS (shN ws) M st k).length cX ∧ OwnI h2.size h' 3 aX (frS (shN ws) M st k).length cX (zsN (frS (shN ws) M st k))) (fun e _ => match e 43 with | .int _ q => S - q.toNat | _ => 0) ⟨Ext.refl _, 0, by omega, rfl, none, 0, rfl, OwnI.nil _ _ _⟩ ?_
  rintro e3 h3 ⟨x3, k, hk, he3, aX, cX, heX, OX⟩
  by_cases hkS : k < S
  · have hlt3 : (k : Int) < (S : Int) := by omega
    have meas : S - ((k : Int) + 1).toNat < S - (k : Int).toNat := by omega
    have hM3 := hM.ext x3
    simp only [he3, heX, hlt3, decide_true, coreS, Value.cells, Value.oneCell', Nat.reduceAdd, Nat.reduceSub, Nat.reduceMul, Nat.reduceLeDiff, Int.reduceEq, Nat.reduceEqDiff, M36Fs72]
    refine map_rangeT Try.underlying83 hM3 rfl ?_
    simp only [coreS, Value.cells, Value.oneCell', Nat.reduceAdd, Nat.reduceSub, Nat.reduceMul, Nat.reduceLeDiff, Int.reduceEq, Nat.reduceEqDiff, M36Fs72]
    refine WP_loopI [10, 12, 48, 49, 50, 51, 52, 53, 54, 55, 56, 57, 58, 59, 60, 61, 62, 63, 64, 65] (fun e h' => Ext h3 h' ∧ ∃ (srv : Bool) (seen : Array Nat) (c0 : Nat), e 10 = .bool srv ∧ h'[h3.size]? = some (.mapIter (some mb) ce seen c0) ∧ ce ≤ c0 ∧ (srv = true → ∃ x ∈ es, ∃ w, st.by_ x.1 = some w ∧ shN ws w = k) ∧ (srv = false → ∀ x ∈ es, seen.contains x.2.2 = true → ∀ w, st.by_ x.1 = some w → shN ws w ≠ k)) (fun _ h' => leftN h3.size mb h') ?_ ?_
    · exact ⟨(Ext.refl _).push _, false, #[], ce, rfl, push_new, Nat.le_refl _, (fun h => by cases h), (fun _ x hx h => by simp at h)⟩
    rintro e4 h4 ⟨x4, srv, seen, c1, he10, hr4, hc1, hT, hF⟩
    have hM4 := hM3.ext x4
    have hμ := leftN_eq hM4 hr4
    simp only [coreS, Value.cells, Value.oneCell', Nat.reduceAdd, Nat.reduceSub, Nat.reduceMul, Nat.reduceLeDiff, Int.reduceEq, Nat.reduceEqDiff, M36Fs72]
    refine map_nextT hM4 hr4 hM4.lt hc1 (by rfl) ?_ ?_
    · intro hall
      have hfn := frS_next (sh := shN ws) (M := M) (t := st) (k := k)
      cases srv with
      | true =>
        obtain ⟨x, hx, w, hw1, hw2⟩ := hT rfl
        obtain ⟨_, hb1, _, _, hxM⟩ := hes x hx
        have hz : ¬ MB.served (shN ws) M st k = 0 := fun h0 => served_zero.1 h0 x.1 w hxM hw1 hw2
        rw [if_neg hz, List.append_nil] at hfn
        simp only [he10, heX, he3, Bool.not_true, coreS, Value.cells, Value.oneCell', Nat.reduceAdd, Nat.reduceSub, Nat.reduceMul, Nat.reduceLeDiff, Int.reduceEq, Nat.reduceEqDiff, M36Fs72]
        refine ⟨by rw [inK_i64]; omega, roundK_mk (by kernel_rfl) ⟨x3.trans x4, k + 1, by omega, rfl, aX, cX, ?_, ?_⟩ meas⟩
        · rw [hfn]; rfl
        · rw [hfn]; exact OX.ext x4
      | false =>
        have hz : MB.served (shN ws) M st k = 0 := served_zero.2 fun m1 w hm1 hw => by
          obtain ⟨x, hx, rfl⟩ := hget m1 w hw
          exact hF rfl x hx (hall x hx) w hw
        rw [if_pos hz] at hfn
        have OX4 := (OX.ext x4).ext ((Ext.refl h4).push (.cells #[.int .i64 (k : Int)] 3))
        have hfl := frS_len (sh := shN ws) (M := M) (t := st) (k := k)
        simp only [he10, heX, Bool.not_false, coreS, Value.cells, Value.oneCell', Nat.reduceAdd, Nat.reduceSub, Nat.reduceMul, Nat.reduceLeDiff, Int.reduceEq, Nat.reduceEqDiff, M36Fs72]
        refine app25 (m0 := h2.size) (len := (frS (shN ws) M st k).length) (m := 1) (ys := [(k : Int)]) rfl rfl OX4 (by rw [push_size]; have := (x3.trans x4).size; omega) (intsV_one push_new) (by omega) fun a' cap' h5 O5 A5 => ?_
        have ezn : zsN (frS (shN ws) M st k) ++ [(k : Int)] = zsN (frS (shN ws) M st (k + 1)) := by rw [hfn]; simp [zsN]
        have ell : (frS (shN ws) M st k).length + 1 = (frS (shN ws) M st (k + 1)).length := by rw [hfn]; simp
        rw [ezn, ell] at O5
        simp only [he3, coreS, Value.cells, Value.oneCell', Nat.reduceAdd, Nat.reduceSub, Nat.reduceMul, Nat.reduceLeDiff, Int.reduceEq, Nat.reduceEqDiff, M36Fs72]
        refine ⟨by rw [inK_i64]; omega, roundK_mk (by kernel_rfl) ⟨A5.extN OX4 ((x3.trans x4).push _) (Nat.le_refl _), k + 1, by omega, rfl, a', cap', ?_, O5⟩ meas⟩
        rw [← ell]; rfl
    · rintro ⟨m1, w1, b1⟩ hmem hsn h5 hr5 u5
      obtain ⟨w, hw1, hw2, hw3, hw4⟩ := hes _ hmem
      simp only at hw1 hw2 hw3 hw4 hr5
      subst hw2
      have x5 : Ext h3 h5 := u5.ext x4 (Nat.le_refl _)
      have hM5 := hM3.ext x5
      have hpush : ∀ z : Nat, (seen.push b1).contains z = (seen.contains z || decide (z = b1)) := fun z => by
        simp [Array.contains_push, eq_comm]
      have hdec : (es.filter fun x => !(seen.push b1).contains x.2.2).length < (es.filter fun x => !seen.contains x.2.2).length := by
        refine Go.Eng.filter_lt (fun x hx => ?_) hmem ?_ ?_
        · rw [hpush]; simp; exact fun h _ => h
        · simpa using hsn
        · simp [hpush]
      have hF2 : srv = false → shN ws w ≠ k → ∀ x ∈ es, (seen.push b1).contains x.2.2 = true → ∀ w', st.by_ x.1 = some w' → shN ws w' ≠ k := fun h0 hne x hx hs w' hw' => by
        rw [hpush] at hs
        rw [Bool.or_eq_true] at hs
        rcases hs with hs | hs
        · exact hF h0 x hx hs w' hw'
        · have hxe : x = (m1, Value.int .i64 (w : Int), b1) := born_inj hM.born hx hmem (of_decide_eq_true hs)
          rw [hxe] at hw'
          rw [hw1] at hw'
          obtain rfl := Option.some.inj hw'
          exact hne
      have hg5 := hgx ((y2.trans x3).trans x5)
      have hr5w := hr.ext ((y2.trans x3).trans x5)
      have meas2 : leftN h3.size mb h5 < leftN h3.size mb h4 := by rw [leftN_eq hM5 hr5, hμ]; exact hdec
      simp only [coreS, Value.cells, Value.oneCell', Nat.reduceAdd, Nat.reduceSub, Nat.reduceMul, Nat.reduceLeDiff, Int.reduceEq, Nat.reduceEqDiff, M36Fs72]
      rw [opW_entry]
      refine map_entryT hM5 hmem hr5 rfl ?_
      cases srv with
      | true =>
        simp only [he10, coreS, Value.cells, Value.oneCell', Nat.reduceAdd, Nat.reduceSub, Nat.reduceMul, Nat.reduceLeDiff, Int.reduceEq, Nat.reduceEqDiff, M36Fs72]
        exact roundK_mk (by kernel_rfl) ⟨x5, true, seen.push b1, ce, rfl, hr5, Nat.le_refl _, hT, fun h => by cases h⟩ meas2
      | false =>
        have fa := faR hr5w hw3
        have c0 := cellW0 hr5w hw3
        rw [(V.s hw3).1] at c0
        have sm := rowW_some hr5w hw3
        simp only [he10, hg5, fa, c0, Int.toNat_natCast, coreS, Value.cells, Value.oneCell', Nat.reduceAdd, Nat.reduceSub, Nat.reduceMul, Nat.reduceLeDiff, Int.reduceEq, Nat.reduceEqDiff, M36Fs72]
        refine ⟨by omega, sm, ?_⟩
        refine roundK_mk (by kernel_rfl) ⟨x5, decide (((shN ws w : Nat) : Int) = (k : Int)), seen.push b1, ce, rfl, hr5, Nat.le_refl _, fun h => ⟨_, hmem, w, hw1, ?_⟩, fun h => hF2 rfl ?_⟩ meas2
        · have := of_decide_eq_true h; omega
        · have := of_decide_eq_false h; omega
  obtain rfl : k = S := by omega
  have A0 := Al.start (sh := shN ws) (mo := moN ws) (n := ws.length) (M := M) (S := k) (st := st)
  have hsh : ∀ i, i < ws.length → shN ws i < k := fun i hi => (V.s hi).2
  have hmo : ∀ i, i < ws.length → moN ws i < M := fun i hi => (V.m hi).2
  simp only [he3, heX, show ¬ ((k : Int) < (k : Int)) by omega, decide_false, coreS, Value.cells, Value.oneCell', Nat.reduceAdd, Nat.reduceSub, Nat.reduceMul, Nat.reduceLeDiff, Int.reduceEq, Nat.reduceEqDiff, M36Fs72]
  refine WP_loopI [7, 8, 14, 15, 16, 17, 75, 76, 77, 78, 79, 80, 81, 82, 83, 84, 85, 86, 87, 88, 89, 90, 91, 92, 93, 94, 95, 96, 97, 98, 99, 100, 101, 102, 103, 104, 105, 106, 107, 108, 109, 110, 111, 112, 113, 114, 115, 116, 117, 118, 119, 120, 121, 122, 123, 124, 125, 126, 127, 128, 129, 130, 131, 132, 133, 134, 135, 136, 137, 138, 139] (fun e h' => Ext h2 h' ∧ ∃ (q : Nat) (X Y : List Nat), e 14 = .int .i64 q ∧ q ≤ X.length ∧ MB.Al (shN ws) (moN ws) ws.length M k st X Y q 0 ∧ ∃ aX cX aY cY, e 7 = .slice aX X.length cX ∧ e 8 = .slice aY Y.length cY ∧ OwnI h2.size h' 3 aX X.length cX (zsN X) ∧ OwnI h2.size h' 3 aY Y.length cY (zsN Y) ∧ Dis aX aY) (fun e _ => match e 14 with | .int _ q => k - q.toNat | _ => 0) ⟨x3, 0, _, [], rfl, Nat.zero_le _, A0, aX, cX, none, 0, rfl, rfl, OX, OwnI.nil _ _ _, Dis.no _⟩ ?_
  clear he3 heX OX
  rintro e5 h5 ⟨x5, q, X, Y, he14, hq, A, aX, cX, aY, cY, heX, heY, OX, OY, D⟩
  have hXS := A.size
  by_cases hqX : q < X.length
  case neg =>
    obtain rfl : q = X.length := by omega
    simp only [he14, heX, heY, show ¬ ((X.length : Int) < (X.length : Int)) by omega, decide_false, coreS, Value.cells, Value.oneCell', Nat.reduceAdd, Nat.reduceSub, Nat.reduceMul, Nat.reduceLeDiff, Int.reduceEq, Nat.reduceEqDiff, M36Fs72]
    have hs := y2.size
    exact ⟨⟨aX, cX, X, aY, cY, Y, rfl, OX.mono hs, OY.mono hs, D, A.fin hsh⟩, y2.trans x5⟩
  have hltq : (q : Int) < (X.length : Int) := by omega
  have meas : k - ((q : Int) + 1).toNat < k - (q : Int).toNat := by omega
  simp only [he14, heX, heY, hltq, hgx (y2.trans x5), decide_true, coreS, Value.cells, Value.oneCell', Nat.reduceAdd, Nat.reduceSub, Nat.reduceMul, Nat.reduceLeDiff, Int.reduceEq, Nat.reduceEqDiff, M36Fs72]
  refine WP_loopI [7, 8, 15, 16, 17, 86, 87, 88, 89, 90, 91, 92, 93, 94, 95, 96, 97, 98, 99, 100, 101, 102, 103, 104, 105, 106, 107, 108, 109, 110, 111, 112, 113, 114, 115, 116, 117, 118, 119, 120, 121, 122, 123, 124, 125, 126, 127, 128, 129, 130, 131, 132, 133, 134, 135, 136, 137, 138, 139] (fun e h' => Ext h2 h' ∧ ∃ (t : Nat) (X Y : List Nat), t ≤ M ∧ e 86 = .int .i64 t ∧ q < X.length ∧ MB.Al (shN ws) (moN ws) ws.length M k st X Y q t ∧ ∃ aX cX aY cY, e 7 = .slice aX X.length cX ∧ e 8 = .slice aY Y.length cY ∧ OwnI h2.size h' 3 aX X.length cX (zsN X) ∧ OwnI h2.size h' 3 aY Y.length cY (zsN Y) ∧ Dis aX aY) (fun e _ => match e 86 with | .int _ q => M - q.toNat | _ => 0) ⟨x5, 0, X, Y, Nat.zero_le _, rfl, hqX, A, aX, cX, aY, cY, rfl, rfl, OX, OY, D⟩ ?_
  clear A heX heY OX OY D hXS hltq hqX
  rintro e6 h6 ⟨x6, t, X, Y, ht, he86, hqX, A, aX, cX, aY, cY, heX, heY, OX, OY, D⟩
  have hXS := A.size
  have hYM : Y.length ≤ M := by
    have := MB.nodup_le (m := List.range M) A.yn fun m hm => by
      obtain ⟨i, hi, _, rfl⟩ := A.ys m hm
      exact List.mem_range.2 (hmo i hi)
    rwa [List.length_range] at this
  by_cases htM : t < M
  case neg =>
    obtain rfl : t = M := by omega
    simp only [he86, he14, heX, heY, show ¬ ((t : Int) < (t : Int)) by omega, decide_false, coreS, Value.cells, Value.oneCell', Nat.reduceAdd, Nat.reduceSub, Nat.reduceMul, Nat.reduceLeDiff, Int.reduceEq, Nat.reduceEqDiff, M36Fs72]
    exact ⟨by rw [inK_i64]; omega, roundK_mk (by kernel_rfl) ⟨x6, q + 1, X, Y, rfl, hqX, A.next hmo, aX, cX, aY, cY, rfl, rfl, OX, OY, D⟩ meas⟩
  have hltt : (t : Int) < (M : Int) := by omega
  have meas6 : M - ((t : Int) + 1).toNat < M - (t : Int).toNat := by omega
  have cx := OX.ints.cell (j := q) (by rw [zsN_length]; exact hqX)
  have sx := OX.ints.isSome (by rw [zsN_length]; omega)
  rw [show (zsN X).getD q 0 = ((X.getD q 0 : Nat) : Int) by simp [zsN, List.getD_eq_getElem?_getD, hqX]] at cx
  simp only [he86, he14, heX, heY, hltt, cx, decide_true, Int.toNat_natCast, coreS, Value.cells, Value.oneCell', Nat.reduceAdd, Nat.reduceSub, Nat.reduceMul, Nat.reduceLeDiff, Int.reduceEq, Nat.reduceEqDiff, M36Fs72]
  refine ⟨by omega, sx, ?_⟩
  refine CallsH.mono (wants92 g b k M a i c ws (X.getD q 0 : Nat) (t : Nat) h6 ((y2.trans x6).get hg) (hr.ext (y2.trans x6)) hn (by omega)) ?_
  rintro v h7 ⟨rfl, x7⟩
  have x67 := x6.trans x7
  have hw : (⟨((X.getD q 0 : Nat) : Int), (t : Int)⟩ : Wn) ∈ ws ↔ ∃ i, i < ws.length ∧ shN ws i = X.getD q 0 ∧ moN ws i = t := by
    constructor
    · intro h
      obtain ⟨j, hj, e⟩ := List.getElem_of_mem h
      have e2 : wAt ws j = ⟨((X.getD q 0 : Nat) : Int), (t : Int)⟩ := by rw [wAt_eq hj, e]
      exact ⟨j, hj, by simp only [shN, e2]; omega, by simp only [moN, e2]; omega⟩
    · rintro ⟨j, hj, h1, h2⟩
      have e2 : wAt ws j = ⟨((X.getD q 0 : Nat) : Int), (t : Int)⟩ := by
        have k1 := (V.s hj).1
        have k2 := (V.m hj).1
        rw [h1] at k1
        rw [h2] at k2
        rw [← k1, ← k2]
      rw [← e2]; exact wAt_mem hj
  by_cases hwm : (⟨((X.getD q 0 : Nat) : Int), (t : Int)⟩ : Wn) ∈ ws
  case neg =>
    simp only [hwm, he86, decide_false, Bool.not_false, coreS, Value.cells, Value.oneCell', Nat.reduceAdd, Nat.reduceSub, Nat.reduceMul, Nat.reduceLeDiff, Int.reduceEq, Nat.reduceEqDiff, M36Fs72]
    exact ⟨by rw [inK_i64]; omega, roundK_mk (by kernel_rfl) ⟨x67, t + 1, X, Y, htM, rfl, hqX, A.skip (fun h => absurd (hw.2 h) hwm), aX, cX, aY, cY, rfl, rfl, OX.ext x7, OY.ext x7, D⟩ meas6⟩
  obtain ⟨j, hj, hj1, hj2⟩ := hw.1 hwm
  simp only [hwm, decide_true, Bool.not_true, coreS, Value.cells, Value.oneCell', Nat.reduceAdd, Nat.reduceSub, Nat.reduceMul, Nat.reduceLeDiff, Int.reduceEq, Nat.reduceEqDiff, M36Fs72]
  refine CallsH.mono (contains66 aY Y.length cY (zsN Y) t h7 (OY.ints.ext x7) (by omega)) ?_
  rintro v h8 ⟨rfl, x8⟩
  rw [zsN_has]
  have x68 := x67.trans x8
  have x78 := x7.trans x8
  cases hct : Y.contains t with
  | true =>
    simp only [he86, coreS, Value.cells, Value.oneCell', Nat.reduceAdd, Nat.reduceSub, Nat.reduceMul, Nat.reduceLeDiff, Int.reduceEq, Nat.reduceEqDiff, M36Fs72]
    exact ⟨by rw [inK_i64]; omega, roundK_mk (by kernel_rfl) ⟨x68, t + 1, X, Y, htM, rfl, hqX, A.skip (fun _ => List.contains_iff_mem.1 hct), aX, cX, aY, cY, rfl, rfl, OX.ext x78, OY.ext x78, D⟩ meas6⟩
  | false =>
    have hno : t ∉ Y := fun hm => by rw [List.contains_iff_mem.2 hm] at hct; cases hct
    simp only [coreS, Value.cells, Value.oneCell', Nat.reduceAdd, Nat.reduceSub, Nat.reduceMul, Nat.reduceLeDiff, Int.reduceEq, Nat.reduceEqDiff, M36Fs72]
    have OY8 := (OY.ext x78).ext ((Ext.refl h8).push (.cells #[.int .i64 (t : Int)] 3))
    have OX8 := (OX.ext x78).ext ((Ext.refl h8).push (.cells #[.int .i64 (t : Int)] 3))
    refine app25 (m0 := h2.size) (len := Y.length) (m := 1) (ys := [(t : Int)]) rfl rfl OY8 (by rw [push_size]; have := x68.size; omega) (intsV_one push_new) (by omega) fun a9 c9 h9 O9 A9 => ?_
    have ezn : zsN Y ++ [(t : Int)] = zsN (Y ++ [t]) := by simp [zsN]
    have ell : Y.length + 1 = (Y ++ [t]).length := by simp
    rw [ezn, ell] at O9
    obtain ⟨OX9, D9⟩ := App.two A9 OX8 D.comm
    have x9 : Ext h2 h9 := A9.extN OY8 (x68.push _) (Nat.le_refl _)
    simp only [coreS, Value.cells, Value.oneCell', Nat.reduceAdd, Nat.reduceSub, Nat.reduceMul, Nat.reduceLeDiff, Int.reduceEq, Nat.reduceEqDiff, M36Fs72]
    refine map_getT Try.underlying83 zero3 keysI (hM.ext x9) (a := t) (ok := true) rfl rfl ?_
    rw [hB.get]
    have addA := fun {Z : List Nat} (hZ : Z = (match st.by_ t with | some w => if shN ws w ∈ X then [] else [shN ws w] | none => [])) => A.add II hsh hqX hj hj1 hj2 hno hZ
    cases hb : st.by_ t with
    | none =>
      have A' := addA (Z := []) (by rw [hb])
      rw [List.append_nil] at A'
      simp only [Option.map_none, Option.isSome_none, Option.getD_none, if_true, he86, coreS, Value.cells, Value.oneCell', Nat.reduceAdd, Nat.reduceSub, Nat.reduceMul, Nat.reduceLeDiff, Int.reduceEq, Nat.reduceEqDiff, M36Fs72]
      refine ⟨by rw [inK_i64]; omega, roundK_mk (by kernel_rfl) ⟨x9, t + 1, X, Y ++ [t], htM, rfl, hqX, A', aX, cX, a9, c9, rfl, ?_, OX9, O9, D9.comm⟩ meas6⟩
      rw [← ell]; rfl
    | some w =>
      have hwl : w < ws.length := List.mem_range.1 (II.ok _ _ hb).1
      have hr9 := hr.ext (y2.trans x9)
      have fa := faR hr9 hwl
      have c0 := cellW0 hr9 hwl
      rw [(V.s hwl).1] at c0
      have sm := rowW_some hr9 hwl
      simp only [Option.map_some, Option.isSome_some, Option.getD_some, if_true, hgx (y2.trans x9), fa, c0, Int.toNat_natCast, coreS, Value.cells, Value.oneCell', Nat.reduceAdd, Nat.reduceSub, Nat.reduceMul, Nat.reduceLeDiff, Int.reduceEq, Nat.reduceEqDiff, M36Fs72]
      refine ⟨by omega, sm, ?_⟩
      refine CallsH.mono (contains66 aX X.length cX (zsN X) (shN ws w : Nat) h9 OX9.ints (by omega)) ?_
      rintro v hA ⟨rfl, xA⟩
      rw [zsN_has]
      have y9A := x9.trans xA
      have hw2 := (V.s hwl).2
      cases hcs : X.contains (shN ws w) with
      | true =>
        have A' := addA (Z := []) (by rw [hb]; simp only; rw [if_pos (List.contains_iff_mem.1 hcs)])
        rw [List.append_nil] at A'
        simp only [he86, Bool.not_true, coreS, Value.cells, Value.oneCell', Nat.reduceAdd, Nat.reduceSub, Nat.reduceMul, Nat.reduceLeDiff, Int.reduceEq, Nat.reduceEqDiff, M36Fs72]
        refine ⟨by rw [inK_i64]; omega, roundK_mk (by kernel_rfl) ⟨y9A, t + 1, X, Y ++ [t], htM, rfl, hqX, A', aX, cX, a9, c9, rfl, ?_, OX9.ext xA, O9.ext xA, D9.comm⟩ meas6⟩
        rw [← ell]; rfl
      | false =>
        have hnx : shN ws w ∉ X := fun hm => by rw [List.contains_iff_mem.2 hm] at hcs; cases hcs
        have A' := addA (Z := [shN ws w]) (by rw [hb]; simp only; rw [if_neg hnx])
        have hrA := hr.ext (y2.trans y9A)
        have faA := faR hrA hwl
        have cA := cellW0 hrA hwl
        rw [(V.s hwl).1] at cA
        simp only [hgx (y2.trans y9A), faA, cA, Int.toNat_natCast, Bool.not_false, coreS, Value.cells, Value.oneCell', Nat.reduceAdd, Nat.reduceSub, Nat.reduceMul, Nat.reduceLeDiff, Int.reduceEq, Nat.reduceEqDiff, M36Fs72]
        refine ⟨by omega, sm, ?_⟩
        have OXA := (OX9.ext xA).ext ((Ext.refl hA).push (.cells #[.int .i64 ((shN ws w : Nat) : Int)] 3))
        have OYA := (O9.ext xA).ext ((Ext.refl hA).push (.cells #[.int .i64 ((shN ws w : Nat) : Int)] 3))
        refine app25 (m0 := h2.size) (len := X.length) (m := 1) (ys := [((shN ws w : Nat) : Int)]) rfl rfl OXA (by rw [push_size]; have := y9A.size; omega) (intsV_one push_new) (by omega) fun aB cB hB2 OB AB => ?_
        have ezn2 : zsN X ++ [((shN ws w : Nat) : Int)] = zsN (X ++ [shN ws w]) := by simp [zsN]
        have ell2 : X.length + 1 = (X ++ [shN ws w]).length := by simp
        rw [ezn2, ell2] at OB
        obtain ⟨OYB, DB⟩ := App.two AB OYA D9.comm
        simp only [he86, coreS, Value.cells, Value.oneCell', Nat.reduceAdd, Nat.reduceSub, Nat.reduceMul, Nat.reduceLeDiff, Int.reduceEq, Nat.reduceEqDiff, M36Fs72]
        refine ⟨by rw [inK_i64]; omega, roundK_mk (by kernel_rfl) ⟨AB.extN OXA (y9A.push _) (Nat.le_refl _), t + 1, X ++ [shN ws w], Y ++ [t], htM, rfl, by rw [← ell2]; omega, A', aB, cB, a9, c9, ?_, ?_, OB, OYB, DB⟩ meas6⟩
        · rw [← ell2]; rfl
        · rw [← ell]; rfl
end Go.Proofs.Ytmgkeeefbfefgaa
