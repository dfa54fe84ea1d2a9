/- Walks: the entries of an account. -/
import Derived.Test.YtepaekbjoombpaaGreatDoorB2
import Derived.Test.YtepaekbjoombpaaGreatDoorEngS
namespace Go.Proofs.YtepaekbjoombpaaGreatDoor
open Go Go.Proofs Go.Eng Tab
set_option maxRecDepth 100000
set_option linter.unusedSimpArgs false
set_option linter.unusedVariables false
set_option maxHeartbeats 1000000
def touch (who : Int) (es : List En) (i : Nat) : Bool := match es[i]? with
  | some e => decide (e.f = who) || decide (e.t = who)
  | none => false
def movI (who : Int) (es : List En) (n : Nat) : List Nat := (List.range n).filter (touch who es)
def movX (es : List En) (l : List Nat) : List (List Value) := l.map fun i : Nat => [.int .i64 i, .agg (enV (es.getD i ⟨0, 0, 0, 0⟩)).toArray]
theorem movI_yes {who : Int} {es : List En} {i : Nat} (h : touch who es i = true) : movI who es (i + 1) = movI who es i ++ [i] := by
  simp [movI, List.range_succ, List.filter_append, h]
theorem movI_no {who : Int} {es : List En} {i : Nat} (h : touch who es i = false) : movI who es (i + 1) = movI who es i := by
  simp [movI, List.range_succ, List.filter_append, h]
theorem movI_at {who : Int} {es : List En} {i n : Nat} (hi : i < n) (h : touch who es i = true) : (movI who es n)[(movI who es i).length]? = some i := by
  obtain ⟨m, rfl⟩ : ∃ m, n = i + (m + 1) := ⟨n - i - 1, by omega⟩
  have e1 : movI who es (i + (m + 1)) = movI who es i ++ (i :: ((List.range m).map (fun j => i + (j + 1))).filter (touch who es)) := by
    rw [movI, movI, List.range_add, List.filter_append, List.range_succ_eq_map, List.map_cons, List.filter_cons_of_pos (by simpa using h)]
    simp [List.map_map, Function.comp_def]
  rw [e1, List.getElem?_append_right (Nat.le_refl _), Nat.sub_self]; rfl
theorem moves114 (lo b1 b2 g0 : Nat) (acc cl who : Int) (a : Option Addr) (n c : Nat) (es : List En) (h : Eng.Heap) (hn : n = es.length) (hl : n ≤ 20) (J : Nat → Eng.Heap → Prop) (E : Eng.Heap → Prop)
    (hF : ∀ i h', J i h' → Row h' a (ensV es) ∧ h'[b1]? = some (.cells #[.pointer (some ⟨g0, 0, none⟩)] 96) ∧ h'[b2]? = some (.cells #[.int .i64 who] 3) ∧ h'[g0]? = some (.cells #[.int .i64 acc, .int .i64 cl, .slice a n c] 150))
    (hX : ∀ i h1 h2, J i h1 → Ext h1 h2 → J i h2) (h0 : J 0 h)
    (step : ∀ i h' vs, (movX es (movI who es n))[i]? = some vs → J i h' → CallY Tryz.prog (.func (.yield lo) #[] #[]) vs h' (fun v h'' => (v = .bool true ∧ J (i + 1) h'') ∨ (v = .bool false ∧ E h''))) :
    CallsH Tryz.prog 114 (#[] ++ #[.func (.yield lo) #[] #[]] ++ #[.pointer (some ⟨b1, 0, none⟩), .pointer (some ⟨b2, 0, none⟩)]) h (fun _ h' => J (movI who es n).length h' ∨ E h') := by
  simp only [Array.append_empty, Array.empty_append, List.append_toArray, List.cons_append, List.nil_append]
  obtain ⟨hr, k1, k2, k3⟩ := hF 0 h h0
  refine CallsH_of_exec Tryz.func114 rfl bod114 ?_
  simp only [Tryz.ntmps114, Tryz.results114, coreS, stK_some, splice, Value.cells, Value.oneCell', Nat.reduceAdd, Nat.reduceSub, Nat.reduceMul, Nat.reduceLeDiff, Int.reduceEq, Nat.reduceEqDiff, agg22, agg26, agg3, agg96, by26, fo150_0, fo24_2, fo26_1, fo26_2, inf22, inf26, inf3, inf96, sz22, sz26, sz3, sz96, zero26, Tryz.underlying22]
  simp only [k1, k2, k3, coreS, Value.cells, Value.oneCell', Nat.reduceAdd, Nat.reduceSub, Nat.reduceMul, Nat.reduceLeDiff, Int.reduceEq, Nat.reduceEqDiff, agg22, agg26, agg3, agg96, by26, fo150_0, fo24_2, fo26_1, fo26_2, inf22, inf26, inf3, inf96, sz22, sz26, sz3, sz96, zero26, Tryz.underlying22]
  refine WP_loopI [4, 5, 12, 13, 14, 15, 16, 17, 18, 19, 20, 21, 22, 23, 24, 25, 26, 27, 28, 29, 30, 31, 32, 33, 34] (fun g h' => ∃ i : Nat, i ≤ n ∧ g 12 = .int .i64 i ∧ J (movI who es i).length h') (fun g _ => match g 12 with | .int _ m => n - m.toNat | _ => 0) ⟨0, by omega, rfl, h0⟩ ?_
  rintro g h' ⟨i, hin, hg, hJ⟩
  obtain ⟨r1, r2, r3, r4⟩ := hF _ _ hJ
  by_cases hi : i < es.length
  · have hsm : a.isSome = true := hr.isSome (by rw [ensV_length]; omega)
    have hc1 := rowE r1 hi
    simp only [hg, hc1, r2, r3, r4, coreS, Value.cells, Value.oneCell', Nat.reduceAdd, Nat.reduceSub, Nat.reduceMul, Nat.reduceLeDiff, Int.reduceEq, Nat.reduceEqDiff, agg22, agg26, agg3, agg96, by26, fo150_0, fo24_2, fo26_1, fo26_2, inf22, inf26, inf3, inf96, sz22, sz26, sz3, sz96, zero26, Tryz.underlying22]
    refine ⟨fun _ => ?_, fun hge => absurd hge (by omega)⟩
    refine ⟨by omega, hsm, ?_⟩
    have hne2 : ¬ b2 = h'.size := by have := lt_of_get r3; omega
    have hge : es[i]? = some es[i] := List.getElem?_eq_getElem hi
    have go : touch who es i = true → ∀ hs, hs = h'.push (.cells #[.int .i64 es[i].d, .int .i64 es[i].f, .int .i64 es[i].t, .int .i64 es[i].a] 26) → CallY Tryz.prog (.func (.yield lo) #[] #[]) [.int .i64 i, .agg #[.int .i64 es[i].d, .int .i64 es[i].f, .int .i64 es[i].t, .int .i64 es[i].a]] hs (fun v h'' => (v = .bool true ∧ J ((movI who es i).length + 1) h'') ∨ (v = .bool false ∧ E h'')) := by
      rintro ht hs rfl
      refine step _ _ _ ?_ (hX _ _ _ hJ ((Ext.refl h').push _))
      rw [movX, List.getElem?_map, movI_at (by omega) ht]
      simp [List.getD, hge, enV]
    have hla : ∀ {b : Bool}, touch who es i = b → (movI who es (i + 1)).length = (movI who es i).length + (if b then 1 else 0) := by
      rintro b rfl
      cases hb : touch who es i with
      | true => rw [movI_yes hb]; simp
      | false => rw [movI_no hb]; simp
    by_cases hf : es[i].f = who
    · have ht : touch who es i = true := by simp [touch, hge, hf]
      have hl2 := hla ht
      simp only [hf, hne2, if_false, r3, decide_true, coreS, stK_some, splice, Value.cells, Value.oneCell', Nat.reduceAdd, Nat.reduceSub, Nat.reduceMul, Nat.reduceLeDiff, Int.reduceEq, Nat.reduceEqDiff, agg22, agg26, agg3, agg96, by26, fo150_0, fo24_2, fo26_1, fo26_2, inf22, inf26, inf3, inf96, sz22, sz26, sz3, sz96, zero26, Tryz.underlying22]
      rw [callV_yield]
      refine CallY.run (go ht _ (by rw [hf])) rfl (by simp [hf]; exact ⟨rfl, rfl⟩) ?_
      rintro v h2 (⟨rfl, hJ2⟩ | ⟨rfl, hE⟩)
      · simp only [Bool.not_true, coreS, Value.cells, Value.oneCell', Nat.reduceAdd, Nat.reduceSub, Nat.reduceMul, Nat.reduceLeDiff, Int.reduceEq, Nat.reduceEqDiff, agg22, agg26, agg3, agg96, by26, fo150_0, fo24_2, fo26_1, fo26_2, inf22, inf26, inf3, inf96, sz22, sz26, sz3, sz96, zero26, Tryz.underlying22]
        refine ⟨by rw [inK_i64]; omega, roundK_mk (by kernel_rfl) ⟨i + 1, by omega, rfl, by rw [hl2]; exact hJ2⟩ ?_⟩
        show n - ((i : Int) + 1).toNat < n - (i : Int).toNat
        omega
      · simp only [Bool.not_false, coreS, Value.cells, Value.oneCell', Nat.reduceAdd, Nat.reduceSub, Nat.reduceMul, Nat.reduceLeDiff, Int.reduceEq, Nat.reduceEqDiff, agg22, agg26, agg3, agg96, by26, fo150_0, fo24_2, fo26_1, fo26_2, inf22, inf26, inf3, inf96, sz22, sz26, sz3, sz96, zero26, Tryz.underlying22]
        exact .inr hE
    · by_cases hto : es[i].t = who
      · have ht : touch who es i = true := by simp [touch, hge, hto]
        have hl2 := hla ht
        simp only [hf, hto, hne2, if_false, r3, decide_true, decide_false, coreS, stK_some, splice, Value.cells, Value.oneCell', Nat.reduceAdd, Nat.reduceSub, Nat.reduceMul, Nat.reduceLeDiff, Int.reduceEq, Nat.reduceEqDiff, agg22, agg26, agg3, agg96, by26, fo150_0, fo24_2, fo26_1, fo26_2, inf22, inf26, inf3, inf96, sz22, sz26, sz3, sz96, zero26, Tryz.underlying22]
        rw [callV_yield]
        refine CallY.run (go ht _ (by rw [hto])) rfl (by simp [hto]; exact ⟨rfl, rfl⟩) ?_
        rintro v h2 (⟨rfl, hJ2⟩ | ⟨rfl, hE⟩)
        · simp only [Bool.not_true, coreS, Value.cells, Value.oneCell', Nat.reduceAdd, Nat.reduceSub, Nat.reduceMul, Nat.reduceLeDiff, Int.reduceEq, Nat.reduceEqDiff, agg22, agg26, agg3, agg96, by26, fo150_0, fo24_2, fo26_1, fo26_2, inf22, inf26, inf3, inf96, sz22, sz26, sz3, sz96, zero26, Tryz.underlying22]
          refine ⟨by rw [inK_i64]; omega, roundK_mk (by kernel_rfl) ⟨i + 1, by omega, rfl, by rw [hl2]; exact hJ2⟩ ?_⟩
          show n - ((i : Int) + 1).toNat < n - (i : Int).toNat
          omega
        · simp only [Bool.not_false, coreS, Value.cells, Value.oneCell', Nat.reduceAdd, Nat.reduceSub, Nat.reduceMul, Nat.reduceLeDiff, Int.reduceEq, Nat.reduceEqDiff, agg22, agg26, agg3, agg96, by26, fo150_0, fo24_2, fo26_1, fo26_2, inf22, inf26, inf3, inf96, sz22, sz26, sz3, sz96, zero26, Tryz.underlying22]
          exact .inr hE
      · have ht : touch who es i = false := by simp [touch, hge, hto, hf]
        have hl2 := hla ht
        simp only [hf, hto, hne2, if_false, r3, decide_false, coreS, stK_some, splice, Value.cells, Value.oneCell', Nat.reduceAdd, Nat.reduceSub, Nat.reduceMul, Nat.reduceLeDiff, Int.reduceEq, Nat.reduceEqDiff, agg22, agg26, agg3, agg96, by26, fo150_0, fo24_2, fo26_1, fo26_2, inf22, inf26, inf3, inf96, sz22, sz26, sz3, sz96, zero26, Tryz.underlying22]
        refine ⟨by rw [inK_i64]; omega, roundK_mk (by kernel_rfl) ⟨i + 1, by omega, rfl, by rw [hl2]; exact hX _ _ _ hJ ((Ext.refl h').push _)⟩ ?_⟩
        show n - ((i : Int) + 1).toNat < n - (i : Int).toNat
        omega
  · obtain rfl : i = n := by omega
    simp only [hg, coreS, Value.cells, Value.oneCell', Nat.reduceAdd, Nat.reduceSub, Nat.reduceMul, Nat.reduceLeDiff, Int.reduceEq, Nat.reduceEqDiff, agg22, agg26, agg3, agg96, by26, fo150_0, fo24_2, fo26_1, fo26_2, inf22, inf26, inf3, inf96, sz22, sz26, sz3, sz96, zero26, Tryz.underlying22]
    exact ⟨fun hlt => absurd hlt (by omega), fun _ => .inl hJ⟩
end Go.Proofs.YtepaekbjoombpaaGreatDoor
