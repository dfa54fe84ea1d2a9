/- Walks: Clash and CheckClash of the program. -/
import Derived.Test.YtoediaepoddonaaT29
namespace Go.Proofs.Ytoediaepoddonaa
open Go Go.Proofs Go.Eng Go.Run Tab
set_option maxRecDepth 100000
set_option linter.unusedSimpArgs false
set_option linter.unusedVariables false
set_option maxHeartbeats 1000000
theorem ClashMap.ext {h h' : Eng.Heap} {mb n : Nat} {cs : List Nat} (H : ClashMap h mb n cs) (x : Ext h h') : ClashMap h' mb n cs := by
  obtain ⟨es, c, M, hg⟩ := H
  exact ⟨es, c, M.ext x, hg⟩
theorem closure72 (p : Nat × Nat) (bx mb n : Nat) (cs : List Nat) (h : Eng.Heap) (hb : h[bx]? = some (.cells #[.map (some mb)] 81)) (H : ClashMap h mb n cs) (hp : p.1 < p.2 ∧ p.2 < cs.length) :
    CallsH Try.prog 72 #[.agg #[.int .i64 (p.1 : Nat), .int .i64 (p.2 : Nat)], .pointer (some ⟨bx, 0, none⟩)] h (fun v h' => v = .bool (decide (clashP n cs p.1 p.2)) ∧ Ext h h') := by
  obtain ⟨es, c, M, hg⟩ := H
  have hgp := hg p
  refine CallsH_of_exec Try.func72 rfl bod72 ?_
  simp only [Try.ntmps72, Try.results72, coreS, stK_some, splice, Value.cells, Value.oneCell', Nat.reduceAdd, Nat.reduceSub, Nat.reduceMul, Nat.reduceLeDiff, Int.reduceEq, Nat.reduceEqDiff, agg81, agg85, inf81, inf85, sz81, sz85]
  have hne : ¬ (bx = h.size) := by have := lt_of_get hb; omega
  simp only [hne, hb, if_false, coreS, Value.cells, Value.oneCell', Nat.reduceAdd, Nat.reduceSub, Nat.reduceMul, Nat.reduceLeDiff, Int.reduceEq, Nat.reduceEqDiff, agg81, agg85, inf81, inf85, sz81, sz85]
  refine map_getT Try.underlying81 zero3 keysP (M.ext ((Ext.refl h).push _)) (a := p) (by rfl) (by rfl) ?_
  by_cases hc : clashP n cs p.1 p.2
  · rw [if_pos ⟨hp, hc⟩] at hgp
    simp only [hgp, hc, decide_true, Option.getD_some, coreS, Value.cells, Value.oneCell', Nat.reduceAdd, Nat.reduceSub, Nat.reduceMul, Nat.reduceLeDiff, Int.reduceEq, Nat.reduceEqDiff, agg81, agg85, inf81, inf85, sz81, sz85]
    exact ⟨rfl, (Ext.refl h).push _⟩
  · rw [if_neg (fun hh => hc hh.2)] at hgp
    simp only [hgp, hc, decide_false, Option.getD_none, coreS, Value.cells, Value.oneCell', Nat.reduceAdd, Nat.reduceSub, Nat.reduceMul, Nat.reduceLeDiff, Int.reduceEq, Nat.reduceEqDiff, agg81, agg85, inf81, inf85, sz81, sz85]
    exact ⟨rfl, (Ext.refl h).push _⟩
def plV (ps : List (Nat × Nat)) : List Value := ps.flatMap fun p => [.int .i64 (p.1 : Nat), .int .i64 (p.2 : Nat)]
theorem plV_length (ps : List (Nat × Nat)) : (plV ps).length = ps.length * 2 := by
  induction ps with
  | nil => rfl
  | cons p ps ih =>
    have : plV (p :: ps) = [.int .i64 (p.1 : Nat), .int .i64 (p.2 : Nat)] ++ plV ps := rfl
    rw [this, List.length_append, ih]; simp; omega
theorem plV_append (ps qs : List (Nat × Nat)) : plV (ps ++ qs) = plV ps ++ plV qs := by simp [plV]
theorem plV_get : ∀ (ps : List (Nat × Nat)) (j : Nat) (hj : j < ps.length), ((plV ps).drop (j * 2)).take 2 = [.int .i64 (ps[j].1 : Nat), .int .i64 (ps[j].2 : Nat)]
  | [], j, h => by simp at h
  | p :: ps, 0, h => by
    have : plV (p :: ps) = [.int .i64 (p.1 : Nat), .int .i64 (p.2 : Nat)] ++ plV ps := rfl
    rw [this]; simp
  | p :: ps, j + 1, h => by
    have : plV (p :: ps) = [.int .i64 (p.1 : Nat), .int .i64 (p.2 : Nat)] ++ plV ps := rfl
    have e : (j + 1) * 2 = 2 + j * 2 := by omega
    rw [this, e, ← List.drop_drop]
    simpa using plV_get ps j (by simpa using h)
theorem find71 (a : Option Addr) (l c bx mb n : Nat) (cs : List Nat) (ps : List (Nat × Nat)) (h : Eng.Heap) (hr : Row h a (plV ps)) (hl : l = ps.length) (hl2 : l ≤ 10000) (hb : h[bx]? = some (.cells #[.map (some mb)] 81)) (H : ClashMap h mb n cs) (hp : ∀ p ∈ ps, p.1 < p.2 ∧ p.2 < cs.length) :
    CallsH Try.prog 71 #[.slice a l c, .func (.func 72) #[] #[.pointer (some ⟨bx, 0, none⟩)]] h (fun v h' => Ext h h' ∧ ((∃ p, ps.find? (fun p => decide (clashP n cs p.1 p.2)) = some p ∧ v = .tuple #[.agg #[.int .i64 (p.1 : Nat), .int .i64 (p.2 : Nat)], .bool true]) ∨
      (ps.find? (fun p => decide (clashP n cs p.1 p.2)) = none ∧ v = .tuple #[.agg #[.int .i64 0, .int .i64 0], .bool false]))) := by
  refine CallsH_of_exec Try.func71 rfl bod71 ?_
  simp only [Try.ntmps71, Try.results71, coreS, stK_some, splice, Value.cells, Value.oneCell', Nat.reduceAdd, Nat.reduceSub, Nat.reduceMul, Nat.reduceLeDiff, Int.reduceEq, Nat.reduceEqDiff, agg85, by85, inf85, sz85, zero85, Try.underlying83]
  refine WP_loopI [5, 7, 11, 12, 13, 14, 15, 16, 17, 18, 19] (fun g h' => ∃ i : Nat, i ≤ l ∧ g 11 = .int .i64 i ∧ Ext h h' ∧ h'[h.size]? = some (.cells #[.int .i64 0, .int .i64 0] 85) ∧ ∀ p ∈ ps.take i, ¬ clashP n cs p.1 p.2) (fun g _ => match g 11 with | .int _ m => l - m.toNat | _ => 0) ⟨0, by omega, rfl, (Ext.refl h).push _, push_new, by simp⟩ ?_
  rintro g h' ⟨i, hi, hg, x, h4, hno⟩
  simp only [hg, coreS, Value.cells, Value.oneCell', Nat.reduceAdd, Nat.reduceSub, Nat.reduceMul, Nat.reduceLeDiff, Int.reduceEq, Nat.reduceEqDiff, agg85, by85, inf85, sz85, zero85, Try.underlying83]
  refine ⟨fun hlt => ?_, fun hge => ?_⟩
  · have hil : i < ps.length := by omega
    have hsm : a.isSome = true := hr.isSome (by rw [plV_length]; omega)
    have hc1 : cellsH h' (eltP a (i * 2)) 2 = some [.int .i64 (ps[i].1 : Nat), .int .i64 (ps[i].2 : Nat)] := by
      rw [← plV_get ps i hil]
      exact (hr.ext x).cells (by rw [plV_length]; omega) (by omega)
    simp only [hc1, splice, coreS, Value.cells, Value.oneCell', Nat.reduceAdd, Nat.reduceSub, Nat.reduceMul, Nat.reduceLeDiff, Int.reduceEq, Nat.reduceEqDiff, agg85, by85, inf85, sz85, zero85, Try.underlying83]
    refine ⟨by omega, hsm, ?_⟩
    have sx := x.size
    have hl4 := lt_of_get h4
    refine stK_abs push_new (by simp) fun h5 g5 u5 => ?_
    have s5 := u5.size
    rw [push_size] at s5
    have x5 : Ext h h5 := u5.ext (x.push _) (by omega)
    have h45 : h5[h.size]? = some (.cells #[.int .i64 0, .int .i64 0] 85) := u5.get (push_old h4) (by omega)
    simp only [g5, splice, coreS, Value.cells, Value.oneCell', Nat.reduceAdd, Nat.reduceSub, Nat.reduceMul, Nat.reduceLeDiff, Int.reduceEq, Nat.reduceEqDiff, agg85, by85, inf85, sz85, zero85, Try.underlying83]
    refine CallsH.mono (closure72 ps[i] bx mb n cs h5 (x5.get hb) (H.ext x5) (hp _ (List.getElem_mem hil))) ?_
    rintro v h6 ⟨rfl, x6⟩
    have htk : ps.take (i + 1) = ps.take i ++ [ps[i]] := by rw [List.take_add_one, List.getElem?_eq_getElem hil]; rfl
    by_cases hcp : clashP n cs ps[i].1 ps[i].2
    · simp only [hcp, decide_true, x6.get g5, splice, coreS, Value.cells, Value.oneCell', Nat.reduceAdd, Nat.reduceSub, Nat.reduceMul, Nat.reduceLeDiff, Int.reduceEq, Nat.reduceEqDiff, agg85, by85, inf85, sz85, zero85, Try.underlying83]
      have h46 := x6.get h45
      simp only [h46, coreS, Value.cells, Value.oneCell', Nat.reduceAdd, Nat.reduceSub, Nat.reduceMul, Nat.reduceLeDiff, Int.reduceEq, Nat.reduceEqDiff, agg85, by85, inf85, sz85, zero85, Try.underlying83]
      refine stK_abs h46 (by simp) fun h7 g7 u7 => ?_
      have s6 := x6.size
      simp only [g7, splice, coreS, Value.cells, Value.oneCell', Nat.reduceAdd, Nat.reduceSub, Nat.reduceMul, Nat.reduceLeDiff, Int.reduceEq, Nat.reduceEqDiff, agg85, by85, inf85, sz85, zero85, Try.underlying83]
      refine ⟨u7.ext (x5.trans x6) (by omega), .inl ⟨ps[i], ?_, rfl⟩⟩
      have key : (ps.take i ++ ps.drop i).find? (fun p => decide (clashP n cs p.1 p.2)) = some ps[i] := by
        rw [List.find?_append, List.find?_eq_none.2 (fun p hp => by simpa using hno p hp), List.drop_eq_getElem_cons hil, List.find?_cons_of_pos (by simpa using hcp)]
        rfl
      rwa [List.take_append_drop] at key
    · simp only [hcp, decide_false, coreS, Value.cells, Value.oneCell', Nat.reduceAdd, Nat.reduceSub, Nat.reduceMul, Nat.reduceLeDiff, Int.reduceEq, Nat.reduceEqDiff, agg85, by85, inf85, sz85, zero85, Try.underlying83]
      refine ⟨by rw [inK_i64]; omega, roundK_mk (by kernel_rfl) ⟨i + 1, by omega, rfl, x5.trans x6, x6.get h45, fun p hp => ?_⟩ ?_⟩
      · rw [htk, List.mem_append, List.mem_singleton] at hp
        rcases hp with hp | rfl
        · exact hno p hp
        · exact hcp
      · show l - ((i : Int) + 1).toNat < l - (i : Int).toNat
        omega
  · obtain rfl : i = l := by omega
    rw [List.take_of_length_le (by omega)] at hno
    have hl4 := lt_of_get h4
    have sx := x.size
    have hne : ¬ (h.size = h'.size) := by omega
    simp only [hne, if_false, h4, coreS, Value.cells, Value.oneCell', Nat.reduceAdd, Nat.reduceSub, Nat.reduceMul, Nat.reduceLeDiff, Int.reduceEq, Nat.reduceEqDiff, agg85, by85, inf85, sz85, zero85, Try.underlying83]
    refine stK_abs (push_old h4) (by simp) fun h7 g7 u7 => ?_
    simp only [g7, splice, coreS, Value.cells, Value.oneCell', Nat.reduceAdd, Nat.reduceSub, Nat.reduceMul, Nat.reduceLeDiff, Int.reduceEq, Nat.reduceEqDiff, agg85, by85, inf85, sz85, zero85, Try.underlying83]
    refine ⟨u7.ext (x.push _) (by omega), .inr ?_⟩
    rw [List.find?_eq_none]
    exact fun p hp => by simpa using hno p hp
theorem app83 {h : Eng.Heap} {er : Env} {ty : TypeId} {m0 : Nat} {x y : Operand} {a b : Option Addr} {len cap m c : Nat} {xs ys : List Value} {K : Value → Eng.Heap → Prop} (hx : ev er x = .slice a len cap) (hy : ev er y = .slice b m c) (O : OwnV m0 h 85 2 a len cap xs) (h0h : m0 ≤ h.size) (I : Row h b ys) (hyl : ys.length = m * 2) (h1 : ∀ u ∈ ys, u.oneCell' = true) (hb : len + m ≤ 10000)
    (H : ∀ a' cap' h', OwnV m0 h' 85 2 a' (len + m) cap' (xs ++ ys) → App h h' a a' → K (.slice a' (len + m) cap') h') : opSem Try.prog (.call ⟨.builtin .append, #[x, y], #[83, 83]⟩) ty er h K :=
  append_valsT Try.underlying83 Try.underlying83 inf85 sz85 zero85 (by simp [Value.cells]) hx hy O h0h I hyl h1 (by omega) (by rw [by85]; omega) H
theorem sort_none (c : Nat) (h : Eng.Heap) : CallsH Try.prog 69 #[.slice none 0 c, .func (.func 70) #[] #[]] h (fun v h' => v = .tuple #[] ∧ h' = h) := by
  unfold CallsH CallsW
  refine And.intro (by kernel_rfl) fun w hw => ?_
  have hcon := AnyF.slices_SortFunc_none laysSF none c (.func (.func 70) #[] #[]) w
  change Calls Try.prog 69 _ _ _ at hcon
  refine hcon.mono ?_
  rintro e w' ⟨rfl, rfl⟩
  exact ⟨_, rfl, ⟨rfl, hw⟩, Rest.refl _⟩
theorem encF_toF {ps : List (Nat × Nat)} (h : ∀ p ∈ ps, p.1 < 16 ∧ p.2 < 16) : (ps.map toF).flatMap encF = plV ps := by
  induction ps with
  | nil => rfl
  | cons p ps ih =>
    have h1 := h p (by simp)
    rw [List.map_cons, List.flatMap_cons, ih fun q hq => h q (by simp [hq]), toF_enc h1.1 h1.2]
    rfl
theorem pairsA_len : ∀ {l : Nat}, l ≤ 12 → (pairsA l).length ≤ 66 := by
  have : ∀ l < 13, (pairsA l).length ≤ 66 := by decide +kernel
  exact fun {l} h => this l (by omega)
theorem pairsB_len {i k : Nat} (hi : i < 12) (hk : k ≤ i) : (pairsB i k).length ≤ 66 := by
  have : (pairsB i k).length ≤ (pairsA (i + 1)).length := by
    rw [pairsA_succ]
    simp [pairsB]; omega
  exact Nat.le_trans this (pairsA_len (by omega))
/-- The sort of all places. -/
theorem sortPl (a : Option Addr) (l c m0 cap : Nat) (h : Eng.Heap) (hl : l ≤ 12) (O : OwnV m0 h 85 2 a (pairsA l).length cap (plV (pairsA l))) :
    CallsH Try.prog 69 #[.slice a (pairsA l).length c, .func (.func 70) #[] #[]] h (fun v h' => v = .tuple #[] ∧ (∀ h0, Ext h0 h → h0.size ≤ m0 → Ext h0 h') ∧ Row h' a (plV (pairs2 l))) := by
  have hb : ∀ p ∈ pairsA l, p.1 < 16 ∧ p.2 < 16 := fun p hp => by have := pairsA_mem.1 hp; omega
  have hb2 : ∀ p ∈ pairs2 l, p.1 < 16 ∧ p.2 < 16 := fun p hp => by have := pairs2_mem.1 hp; omega
  have hlen : ((pairsA l).map toF).length = (pairsA l).length := by simp
  have h66 := pairsA_len hl
  have key := sort_pairs hl
  rcases O.ok with ⟨rfl, h1, h2⟩ | ⟨g, cur, rfl, h1, h2, h3, h4, h5⟩
  · rw [h1]
    refine CallsH.mono (sort_none c h) ?_
    rintro v h' ⟨rfl, rfl⟩
    refine ⟨rfl, fun h0 x _ => x, .inl ?_⟩
    have : (pairs2 l).length = 0 := by
      have := congrArg List.length key
      rw [List.length_mergeSort] at this
      simpa [h1] using this.symm
    rw [List.length_eq_zero_iff.1 this]
    rfl
  · have hmul : (pairsA l).length * 2 ≤ cap * 2 := Nat.mul_le_mul_right _ h4
    rw [← hlen]
    refine CallsH.mono (sort69 g c ((pairsA l).map toF) cur h h2 (by rw [hlen]; omega) (by rw [hlen, h5, encF_toF hb]) (by rw [hlen]; omega)) ?_
    rintro v h' ⟨rfl, ch, hr⟩
    rw [key, encF_toF hb2] at hr
    exact ⟨rfl, fun h0 x hm => Chg.fresh x ch (by omega), hr⟩
theorem clash34 (shops : Int) (a : Option Addr) (n c : Nat) (xs : List Int) (h : Eng.Heap) (hv : IntsV h a n xs) (hl : n ≤ 1000000) :
    CallsH Try.prog 34 #[.int .i64 shops, .slice a n c] h (fun v h' => Ext h h' ∧ v = .tuple #[.int .i64 (clashR shops xs).1, .int .i64 (clashR shops xs).2.1, .int .i64 (clashR shops xs).2.2]) := by
  have hn := hv.len
  refine CallsH_of_exec Try.func34 rfl bod34 ?_
  simp only [Try.ntmps34, Try.results34, coreS, stK_some, splice, Value.cells, Value.oneCell', Nat.reduceAdd, Nat.reduceSub, Nat.reduceMul, Nat.reduceLeDiff, Int.reduceEq, Nat.reduceEqDiff, agg3, agg81, agg85, by85, fo85_0, fo85_1, fps85_0, fps85_1, inf3, inf81, inf85, okf85, sz3, sz81, sz85, zero81, zero85, Try.underlying22, Try.underlying83]
  refine CallsH.mono (begun55 shops a n c xs h hv hl) ?_
  rintro v h1 ⟨x1, ⟨h0, b, rfl, hb, hb2⟩ | ⟨hne, rfl⟩⟩
  · have hf0 : clashR shops xs = match clashF shops.toNat (codeF (List.range shops.toNat) (natL xs)) with | some p => ((p.1 : Int), (p.2 : Int), 0) | none => (0, 0, 5) := if_pos h0
    obtain ⟨k, rfl, hk1, hk2, hxl, hz, hbf⟩ := begE_ok h0
    have hcl : (codeF (List.range k) (natL xs)).length = n := by rw [codeF_length, natL_length]; omega
    rw [Int.toNat_natCast] at hf0
    simp only [h0, coreS, Value.cells, Value.oneCell', Nat.reduceAdd, Nat.reduceSub, Nat.reduceMul, Nat.reduceLeDiff, Int.reduceEq, Nat.reduceEqDiff, agg3, agg81, agg85, by85, fo85_0, fo85_1, fps85_0, fps85_1, inf3, inf81, inf85, okf85, sz3, sz81, sz85, zero81, zero85, Try.underlying22, Try.underlying83]
    have hv' := hv
    rw [← hz] at hv'
    refine CallsH.mono (clashes68 b k n c a (natL xs) h1 h hk1 hk2 (Rnd0.new hk1 hk2 hb) x1 hb2 hbf hv' (by rw [natL_length]; omega)) ?_
    rintro v h2 ⟨x2, mb, rfl, CM⟩
    obtain ⟨cs, hcs⟩ : ∃ cs, cs = codeF (List.range k) (natL xs) := ⟨_, rfl⟩
    rw [← hcs] at CM hf0 hcl
    have hfl : clashF k cs = (pairs2 n).find? fun p => decide (clashP k cs p.1 p.2) := by rw [clashF, hcl]
    simp only [splice, coreS, Value.cells, Value.oneCell', Nat.reduceAdd, Nat.reduceSub, Nat.reduceMul, Nat.reduceLeDiff, Int.reduceEq, Nat.reduceEqDiff, agg3, agg81, agg85, by85, fo85_0, fo85_1, fps85_0, fps85_1, inf3, inf81, inf85, okf85, sz3, sz81, sz85, zero81, zero85, Try.underlying22, Try.underlying83]
    refine stK_abs push_new (by simp) fun h3 g3 u3 => ?_
    have s3 := u3.size
    rw [push_size] at s3
    have x23 : Ext h2 h3 := u3.ext ((Ext.refl h2).push _) (Nat.le_refl _)
    have CM3 := CM.ext x23
    replace g3 : h3[h2.size]? = some (.cells #[.map (some mb)] 81) := g3
    simp only [coreS, Value.cells, Value.oneCell', Nat.reduceAdd, Nat.reduceSub, Nat.reduceMul, Nat.reduceLeDiff, Int.reduceEq, Nat.reduceEqDiff, agg3, agg81, agg85, by85, fo85_0, fo85_1, fps85_0, fps85_1, inf3, inf81, inf85, okf85, sz3, sz81, sz85, zero81, zero85, Try.underlying22, Try.underlying83]
    refine WP_loopI [10, 11, 12, 29, 30, 31, 32, 33, 34, 35, 36, 37, 38, 39, 40, 41, 42, 43] (fun g h' => ∃ i : Nat, i ≤ n ∧ g 29 = .int .i64 i ∧ Ext h3 h' ∧ ∃ a cap, g 10 = .slice a (pairsA i).length cap ∧ OwnV h3.size h' 85 2 a (pairsA i).length cap (plV (pairsA i))) (fun g _ => match g 29 with | .int _ m => n - m.toNat | _ => 0) ⟨0, by omega, rfl, Ext.refl _, none, 0, rfl, OwnV.nil _ _ _ _⟩ ?_
    rintro g h' ⟨i, hi, hg29, x, a2, cap, hg10, O⟩
    simp only [hg29, hg10, coreS, Value.cells, Value.oneCell', Nat.reduceAdd, Nat.reduceSub, Nat.reduceMul, Nat.reduceLeDiff, Int.reduceEq, Nat.reduceEqDiff, agg3, agg81, agg85, by85, fo85_0, fo85_1, fps85_0, fps85_1, inf3, inf81, inf85, okf85, sz3, sz81, sz85, zero81, zero85, Try.underlying22, Try.underlying83]
    refine ⟨fun hlt => ?_, fun hge => ?_⟩
    · have hin : i < n := by omega
      refine WP_loopI [10, 12, 33, 34, 35, 36, 37, 38, 39, 40, 41, 42] (fun g h' => ∃ j : Nat, j ≤ i ∧ g 33 = .int .i64 j ∧ Ext h3 h' ∧ ∃ a cap, g 10 = .slice a (pairsB i j).length cap ∧ OwnV h3.size h' 85 2 a (pairsB i j).length cap (plV (pairsB i j))) (fun g _ => match g 33 with | .int _ m => i - m.toNat | _ => 0) ⟨0, by omega, rfl, x, a2, cap, by rw [pairsB_zero]; rfl, by rw [pairsB_zero]; exact O⟩ ?_
      rintro g2 h4 ⟨j, hj, hg33, x4, a3, cap3, hg10', O4⟩
      simp only [hg33, hg10', coreS, Value.cells, Value.oneCell', Nat.reduceAdd, Nat.reduceSub, Nat.reduceMul, Nat.reduceLeDiff, Int.reduceEq, Nat.reduceEqDiff, agg3, agg81, agg85, by85, fo85_0, fo85_1, fps85_0, fps85_1, inf3, inf81, inf85, okf85, sz3, sz81, sz85, zero81, zero85, Try.underlying22, Try.underlying83]
      refine ⟨fun hlt2 => ?_, fun hge2 => ?_⟩
      · have hji : j < i := by omega
        have h66 := pairsB_len (show i < 12 by omega) (show j ≤ i by omega)
        simp only [splice, coreS, Value.cells, Value.oneCell', Nat.reduceAdd, Nat.reduceSub, Nat.reduceMul, Nat.reduceLeDiff, Int.reduceEq, Nat.reduceEqDiff, agg3, agg81, agg85, by85, fo85_0, fo85_1, fps85_0, fps85_1, inf3, inf81, inf85, okf85, sz3, sz81, sz85, zero81, zero85, Try.underlying22, Try.underlying83]
        refine ⟨by omega, ?_⟩
        refine app83 (ys := [.int .i64 (j : Nat), .int .i64 (i : Nat)]) rfl rfl (O4.ext ((Ext.refl h4).push _)) (by have := x4.size; simp; omega) (Row.block push_new) rfl (by simp [Value.oneCell']) (by omega) fun a' cap' h5 O5 A => ?_
        have x5 : Ext h3 h5 := A.extV (O4.ext ((Ext.refl h4).push _)) (x4.push _) (Nat.le_refl _)
        have el : (pairsB i (j + 1)).length = (pairsB i j).length + 1 := by rw [pairsB_succ]; simp
        have ev : plV (pairsB i (j + 1)) = plV (pairsB i j) ++ [.int .i64 (j : Nat), .int .i64 (i : Nat)] := by rw [pairsB_succ, plV_append]; rfl
        simp only [coreS, Value.cells, Value.oneCell', Nat.reduceAdd, Nat.reduceSub, Nat.reduceMul, Nat.reduceLeDiff, Int.reduceEq, Nat.reduceEqDiff, agg3, agg81, agg85, by85, fo85_0, fo85_1, fps85_0, fps85_1, inf3, inf81, inf85, okf85, sz3, sz81, sz85, zero81, zero85, Try.underlying22, Try.underlying83]
        refine ⟨by rw [inK_i64]; omega, roundK_mk (by kernel_rfl) ⟨j + 1, by omega, rfl, x5, a', cap', by rw [el]; rfl, by rw [el, ev]; exact O5⟩ ?_⟩
        show i - ((j : Int) + 1).toNat < i - (j : Int).toNat
        omega
      · obtain rfl : j = i := by omega
        refine ⟨by rw [inK_i64]; omega, roundK_mk (by kernel_rfl) ⟨j + 1, by omega, rfl, x4, a3, cap3, by rw [pairsA_succ]; rfl, by rw [pairsA_succ]; exact O4⟩ ?_⟩
        show n - ((j : Int) + 1).toNat < n - (j : Int).toNat
        omega
    · obtain rfl : i = n := by omega
      refine CallsH.mono (sortPl a2 i cap h3.size cap h' (by omega) O) ?_
      rintro v h5 ⟨rfl, hk5, hr5⟩
      have x5 := hk5 h3 x (Nat.le_refl _)
      have hlen : (pairsA i).length = (pairs2 i).length := by
        have := congrArg List.length (sort_pairs (show i ≤ 12 by omega))
        rw [List.length_mergeSort] at this
        simpa using this
      have h66 := pairsA_len (show i ≤ 12 by omega)
      simp only [coreS, Value.cells, Value.oneCell', Nat.reduceAdd, Nat.reduceSub, Nat.reduceMul, Nat.reduceLeDiff, Int.reduceEq, Nat.reduceEqDiff, agg3, agg81, agg85, by85, fo85_0, fo85_1, fps85_0, fps85_1, inf3, inf81, inf85, okf85, sz3, sz81, sz85, zero81, zero85, Try.underlying22, Try.underlying83]
      refine CallsH.mono (find71 a2 (pairsA i).length cap h2.size mb k cs (pairs2 i) h5 hr5 hlen (by omega) (x5.get g3) (CM3.ext x5) (fun p hp => by rw [hcl]; exact pairs2_mem.1 hp)) ?_
      have x05 := (x2.trans x23).trans x5
      rw [← hfl]
      rintro v h6 ⟨x6, ⟨p, hp, rfl⟩ | ⟨hp, rfl⟩⟩
      · rw [hp] at hf0
        simp only [splice, coreS, Value.cells, Value.oneCell', Nat.reduceAdd, Nat.reduceSub, Nat.reduceMul, Nat.reduceLeDiff, Int.reduceEq, Nat.reduceEqDiff, agg3, agg81, agg85, by85, fo85_0, fo85_1, fps85_0, fps85_1, inf3, inf81, inf85, okf85, sz3, sz81, sz85, zero81, zero85, Try.underlying22, Try.underlying83]
        refine stK_abs push_new (by simp) fun h7 g7 u7 => ?_
        have x7 : Ext h h7 := u7.ext ((x05.trans x6).push _) (by have := (x05.trans x6).size; omega)
        replace g7 : h7[h6.size]? = some (.cells #[.int .i64 (p.1 : Nat), .int .i64 (p.2 : Nat)] 85) := g7
        simp only [g7, coreS, Value.cells, Value.oneCell', Nat.reduceAdd, Nat.reduceSub, Nat.reduceMul, Nat.reduceLeDiff, Int.reduceEq, Nat.reduceEqDiff, agg3, agg81, agg85, by85, fo85_0, fo85_1, fps85_0, fps85_1, inf3, inf81, inf85, okf85, sz3, sz81, sz85, zero81, zero85, Try.underlying22, Try.underlying83]
        refine WP_draw (by kernel_rfl) sta_eq [(0, 0), (1, 0), (2, 0), (3, 0), (4, 0), (5, 0), (6, 0)] (by kernel_rfl) rfl (by kernel_rfl) ?_
        simp only [g7, hvK_eq, coreS, Value.cells, Value.oneCell', Nat.reduceAdd, Nat.reduceSub, Nat.reduceMul, Nat.reduceLeDiff, Int.reduceEq, Nat.reduceEqDiff, drawS, agg3, agg81, agg85, by85, fo85_0, fo85_1, fps85_0, fps85_1, inf3, inf81, inf85, okf85, sz3, sz81, sz85, zero81, zero85, Try.underlying22, Try.underlying83]
        repeat (refine And.intro (by first | omega | (rw [inK_i64]; omega) | rfl | assumption) ?_)
        rw [hf0]
      · rw [hp] at hf0
        simp only [splice, coreS, Value.cells, Value.oneCell', Nat.reduceAdd, Nat.reduceSub, Nat.reduceMul, Nat.reduceLeDiff, Int.reduceEq, Nat.reduceEqDiff, agg3, agg81, agg85, by85, fo85_0, fo85_1, fps85_0, fps85_1, inf3, inf81, inf85, okf85, sz3, sz81, sz85, zero81, zero85, Try.underlying22, Try.underlying83]
        refine stK_abs push_new (by simp) fun h7 g7 u7 => ?_
        have x7 : Ext h h7 := u7.ext ((x05.trans x6).push _) (by have := (x05.trans x6).size; omega)
        simp only [coreS, Value.cells, Value.oneCell', Nat.reduceAdd, Nat.reduceSub, Nat.reduceMul, Nat.reduceLeDiff, Int.reduceEq, Nat.reduceEqDiff, agg3, agg81, agg85, by85, fo85_0, fo85_1, fps85_0, fps85_1, inf3, inf81, inf85, okf85, sz3, sz81, sz85, zero81, zero85, Try.underlying22, Try.underlying83]
        rw [hf0]
        exact ⟨x7, rfl⟩
  · simp only [hne, coreS, Value.cells, Value.oneCell', Nat.reduceAdd, Nat.reduceSub, Nat.reduceMul, Nat.reduceLeDiff, Int.reduceEq, Nat.reduceEqDiff, agg3, agg81, agg85, by85, fo85_0, fo85_1, fps85_0, fps85_1, inf3, inf81, inf85, okf85, sz3, sz81, sz85, zero81, zero85, Try.underlying22, Try.underlying83]
    have : clashR shops xs = (0, 0, begE shops xs) := if_neg hne
    rw [this]
    exact ⟨x1, rfl⟩
end Go.Proofs.Ytoediaepoddonaa
