/- Walks: which books are valid. -/
import Derived.Test.YtepaekbjoombpaaGreatDoorA1
import Derived.Test.YtepaekbjoombpaaGreatDoorEngM
namespace Go.Proofs.YtepaekbjoombpaaGreatDoor
open Go Go.Proofs Go.Eng Tab
set_option maxRecDepth 100000
set_option linter.unusedSimpArgs false
set_option linter.unusedVariables false
set_option maxHeartbeats 1000000
set_option linter.defProp false
def A2Fs65 := (And.intro (And.intro (And.intro @agg2 (And.intro @agg3 @by3)) (And.intro @fo26_0 (And.intro @fo26_1 @fo26_2))) (And.intro (And.intro @fo26_3 (And.intro @inf2 @inf3)) (And.intro (And.intro @sz2 @sz3) (And.intro @zero3 @Tryz.underlying40))))
def A2Fs66 := (And.intro (And.intro @agg26 @by26) (And.intro @inf26 (And.intro @sz26 @Tryz.underlying22)))
def A2Fs70 := (And.intro (And.intro (And.intro @agg2 @agg3) (And.intro @fo26_0 (And.intro @fo26_1 @fo26_2))) (And.intro (And.intro @fo26_3 @inf2) (And.intro @inf3 (And.intro @sz2 @sz3))))
def A2Fs74 := (And.intro (And.intro @agg26 (And.intro @agg3 @fo24_0)) (And.intro (And.intro @inf26 @inf3) (And.intro @sz26 @sz3)))
def A2Fs75 := (And.intro (And.intro @agg3 @fo26_0) (And.intro @inf3 @sz3))
def A2Fs77 := (And.intro (And.intro @agg26 @by26) (And.intro @inf26 (And.intro @sz26 @Tryz.underlying22)))
def A2Fs78 := (And.intro (And.intro @agg3 @fo26_1) (And.intro @fo26_2 (And.intro @inf3 @sz3)))
theorem intsV_one {h : Eng.Heap} {b : Nat} {x : Int} {ct : TypeId} {fr : Nat × Nat} (hb : h[b]? = some (.cells #[.int .i64 x] ct fr)) : IntsV h (some ⟨b, 0, none⟩) 1 [x] := IntsV.block (xs := [x]) hb
theorem pn1 {h : Eng.Heap} {o o' : Obj} : ((h.push o).push o')[h.size + 1]? = some o' := by rw [Array.getElem?_push, if_pos (by simp)]
theorem pn0 {h : Eng.Heap} {o o' : Obj} : ((h.push o).push o')[h.size]? = some o := by rw [Array.getElem?_push, if_neg (by simp)]; exact push_new
theorem intsV_two {h : Eng.Heap} {b : Nat} {x y : Int} {ct : TypeId} {fr : Nat × Nat} (hb : h[b]? = some (.cells #[.int .i64 x, .int .i64 y] ct fr)) : IntsV h (some ⟨b, 0, none⟩) 2 [x, y] := IntsV.block (xs := [x, y]) hb
theorem inB_one {lo hi x : Int} : inB lo hi [x] = decide (lo ≤ x ∧ x ≤ hi) := by simp [inB]
theorem inB_two {lo hi x y : Int} : inB lo hi [x, y] = decide ((lo ≤ x ∧ x ≤ hi) ∧ lo ≤ y ∧ y ≤ hi) := by simp [inB]
/-- An entry. -/
structure En where
  d : Int
  f : Int
  t : Int
  a : Int
  deriving DecidableEq
def enV (e : En) : List Value := [.int .i64 e.d, .int .i64 e.f, .int .i64 e.t, .int .i64 e.a]
def ensV (es : List En) : List Value := es.flatMap enV
theorem ensV_cons (e : En) (es : List En) : ensV (e :: es) = enV e ++ ensV es := rfl
theorem ensV_append (es fs : List En) : ensV (es ++ fs) = ensV es ++ ensV fs := by simp [ensV]
theorem ensV_length (es : List En) : (ensV es).length = es.length * 4 := by
  induction es with
  | nil => rfl
  | cons e es ih => rw [ensV_cons, List.length_append, ih]; simp [enV]; omega
theorem ensV_drop : ∀ (es : List En) (j : Nat), (ensV es).drop (j * 4) = ensV (es.drop j)
  | es, 0 => by simp
  | [], j + 1 => by simp [ensV]
  | e :: es, j + 1 => by
    have e1 : (j + 1) * 4 = 4 + j * 4 := by omega
    rw [ensV_cons, e1, ← List.drop_drop]
    have : (enV e ++ ensV es).drop 4 = ensV es := by simp [enV]
    rw [this, ensV_drop es j]; rfl
theorem ensV_take : ∀ (es : List En) (j : Nat), (ensV es).take (j * 4) = ensV (es.take j)
  | es, 0 => by simp [ensV]
  | [], j + 1 => by simp [ensV]
  | e :: es, j + 1 => by
    have e1 : (j + 1) * 4 = 4 + j * 4 := by omega
    rw [ensV_cons, e1, List.take_add]
    have h1 : (enV e ++ ensV es).take 4 = enV e := by simp [enV]
    have h2 : (enV e ++ ensV es).drop 4 = ensV es := by simp [enV]
    rw [h1, h2, ensV_take es j]; rfl
theorem ensV_get (es : List En) (j : Nat) (hj : j < es.length) : ((ensV es).drop (j * 4)).take 4 = enV es[j] := by
  have h1 : ((ensV es).drop (j * 4)).take (1 * 4) = ensV ((es.drop j).take 1) := by rw [ensV_drop, ensV_take]
  rw [Nat.one_mul] at h1
  rw [h1, List.drop_eq_getElem_cons hj]
  simp only [List.take_succ_cons, List.take_zero, ensV, List.flatMap_cons, List.flatMap_nil, List.append_nil]
theorem ensV_at (es : List En) (j k : Nat) (hj : j < es.length) (hk : k < 4) : (ensV es)[j * 4 + k]? = (enV es[j])[k]? := by
  have h := ensV_get es j hj
  have : (((ensV es).drop (j * 4)).take 4)[k]? = (enV es[j])[k]? := by rw [h]
  rwa [List.getElem?_take, if_pos hk, List.getElem?_drop] at this
/-- The numbers of an entry are as described. -/
def okE (acc : Int) (e : En) : Prop := (1 ≤ e.d ∧ e.d ≤ 30) ∧ (0 ≤ e.f ∧ e.f < acc) ∧ (0 ≤ e.t ∧ e.t < acc) ∧ (1 ≤ e.a ∧ e.a ≤ 1000)
instance (acc : Int) (e : En) : Decidable (okE acc e) := by unfold okE; infer_instance
theorem stray65 (acc : Int) (e : En) (h : Eng.Heap) (ha : -9223372036854775808 < acc ∧ acc ≤ 9223372036854775807) :
    CallsH Tryz.prog 65 #[.int .i64 acc, .agg #[.int .i64 e.d, .int .i64 e.f, .int .i64 e.t, .int .i64 e.a]] h (fun v h' => v = .bool (!decide (okE acc e)) ∧ Ext h h') := by
  refine CallsH_of_exec Tryz.func65 rfl bod65 ?_
  simp only [Tryz.ntmps65, Tryz.results65, coreS, stK_some, splice, Value.cells, Value.oneCell', Nat.reduceAdd, Nat.reduceSub, Nat.reduceMul, Nat.reduceLeDiff, Int.reduceEq, Nat.reduceEqDiff, A2Fs65]
  refine CallsH.mono (within71 1 30 _ 1 1 [e.d] _ (intsV_one pn1) (by omega)) ?_
  rintro v h1 ⟨rfl, x1⟩
  have hb1 := x1.get pn0
  have y1 := x1.of_push.of_push
  by_cases hd : 1 ≤ e.d ∧ e.d ≤ 30
  · simp only [inB_one, hd, hb1, and_self, decide_true, Bool.not_true, splice, coreS, Value.cells, Value.oneCell', Nat.reduceAdd, Nat.reduceSub, Nat.reduceMul, Nat.reduceLeDiff, Int.reduceEq, Nat.reduceEqDiff, A2Fs65]
    refine ⟨by rw [inK_i64]; omega, ?_⟩
    refine CallsH.mono (within71 0 (acc - 1) _ 2 2 [e.f, e.t] _ (intsV_two push_new) (by omega)) ?_
    rintro v h2 ⟨rfl, x2⟩
    have hb2 := (x2.of_push).get hb1
    have y2 := y1.trans x2.of_push
    by_cases hf : (0 ≤ e.f ∧ e.f ≤ acc - 1) ∧ 0 ≤ e.t ∧ e.t ≤ acc - 1
    · have hok : decide (okE acc e) = (decide (1 ≤ e.a) && decide (e.a ≤ 1000)) := by
        rw [← Bool.decide_and]
        refine decide_eq_decide.2 ?_
        unfold okE
        omega
      by_cases ha1 : e.a < 1
      · have ha2 : ¬ 1 ≤ e.a := by omega
        simp only [inB_two, hf, hb2, ha1, ha2, hok, and_self, decide_true, decide_false, Bool.not_true, Bool.not_false, Bool.false_and, coreS, Value.cells, Value.oneCell', Nat.reduceAdd, Nat.reduceSub, Nat.reduceMul, Nat.reduceLeDiff, Int.reduceEq, Nat.reduceEqDiff, A2Fs65]
        exact y2
      · have ha2 : 1 ≤ e.a := by omega
        have ha3 : decide (1000 < e.a) = !decide (e.a ≤ 1000) := by by_cases h1 : e.a ≤ 1000 <;> simp [h1] <;> omega
        simp only [inB_two, hf, hb2, ha1, ha2, hok, ha3, and_self, decide_true, decide_false, Bool.not_true, Bool.not_false, Bool.true_and, coreS, Value.cells, Value.oneCell', Nat.reduceAdd, Nat.reduceSub, Nat.reduceMul, Nat.reduceLeDiff, Int.reduceEq, Nat.reduceEqDiff, A2Fs65]
        exact y2
    · have hok : ¬ okE acc e := by unfold okE; omega
      simp only [inB_two, hf, hok, decide_false, Bool.not_false, coreS, Value.cells, Value.oneCell', Nat.reduceAdd, Nat.reduceSub, Nat.reduceMul, Nat.reduceLeDiff, Int.reduceEq, Nat.reduceEqDiff, A2Fs65]
      exact y2
  · have hok : ¬ okE acc e := by unfold okE; omega
    simp only [inB_one, hd, hok, decide_false, Bool.not_false, coreS, Value.cells, Value.oneCell', Nat.reduceAdd, Nat.reduceSub, Nat.reduceMul, Nat.reduceLeDiff, Int.reduceEq, Nat.reduceEqDiff, A2Fs65]
    exact y1
theorem numbers70 (acc : Int) (e : En) (h : Eng.Heap) :
    CallsH Tryz.prog 70 #[.int .i64 acc, .agg #[.int .i64 e.d, .int .i64 e.f, .int .i64 e.t, .int .i64 e.a]] h (fun v h' => v = .int .i64 (if okE acc e then 0 else 3) ∧ Ext h h') := by
  refine CallsH_of_exec Tryz.func70 rfl bod70 ?_
  simp only [Tryz.ntmps70, Tryz.results70, coreS, stK_some, splice, Value.cells, Value.oneCell', Nat.reduceAdd, Nat.reduceSub, Nat.reduceMul, Nat.reduceLeDiff, Int.reduceEq, Nat.reduceEqDiff, A2Fs70]
  have y : Ext h (h.push (.cells #[.int .i64 e.d, .int .i64 e.f, .int .i64 e.t, .int .i64 e.a] 26)) := (Ext.refl h).push _
  refine ⟨fun h1 => ?_, fun h1 => ⟨fun h2 => ?_, fun h2 => ⟨fun h3 => ?_, fun h3 => ⟨fun h4 => ?_, fun h4 => ⟨fun h5 => ?_, fun h5 => ⟨fun h6 => ?_, fun h6 => ⟨fun h7 => ?_, fun h7 => ⟨fun h8 => ?_, fun h8 => ?_⟩⟩⟩⟩⟩⟩⟩⟩
  all_goals refine ⟨?_, y⟩
  case refine_9 => rw [if_pos (by unfold okE; omega)]
  all_goals rw [if_neg (by unfold okE; omega)]
theorem closure74 (acc cl : Int) (sl : Value) (e : En) (b : Nat) (h : Eng.Heap) (hb : h[b]? = some (.cells #[.int .i64 acc, .int .i64 cl, sl] 24)) (ha : -9223372036854775808 < acc ∧ acc ≤ 9223372036854775807) :
    CallsH Tryz.prog 74 #[.agg #[.int .i64 e.d, .int .i64 e.f, .int .i64 e.t, .int .i64 e.a], .pointer (some ⟨b, 0, none⟩)] h (fun v h' => v = .bool (!decide (okE acc e)) ∧ Ext h h') := by
  refine CallsH_of_exec Tryz.func74 rfl bod74 ?_
  simp only [Tryz.ntmps74, Tryz.results74, coreS, stK_some, splice, Value.cells, Value.oneCell', Nat.reduceAdd, Nat.reduceSub, Nat.reduceMul, Nat.reduceLeDiff, Int.reduceEq, Nat.reduceEqDiff, A2Fs74]
  have hne : ¬ (b = h.size) := by have := lt_of_get hb; omega
  simp only [hne, hb, if_false, coreS, Value.cells, Value.oneCell', Nat.reduceAdd, Nat.reduceSub, Nat.reduceMul, Nat.reduceLeDiff, Int.reduceEq, Nat.reduceEqDiff, A2Fs74]
  refine CallsH.mono (stray65 acc e _ ha) ?_
  rintro v h1 ⟨rfl, x1⟩
  simp only [coreS, Value.cells, Value.oneCell', Nat.reduceAdd, Nat.reduceSub, Nat.reduceMul, Nat.reduceLeDiff, Int.reduceEq, Nat.reduceEqDiff, A2Fs74]
  exact x1.of_push
theorem closure75 (x y : En) (h : Eng.Heap) (hd : InK .i64 (x.d - y.d)) :
    CallsH Tryz.prog 75 #[.agg #[.int .i64 x.d, .int .i64 x.f, .int .i64 x.t, .int .i64 x.a], .agg #[.int .i64 y.d, .int .i64 y.f, .int .i64 y.t, .int .i64 y.a]] h (fun v h' => v = .int .i64 (x.d - y.d) ∧ Ext h h') := by
  refine CallsH_of_exec Tryz.func75 rfl bod75 ?_
  simp only [Tryz.ntmps75, Tryz.results75, coreS, stK_some, splice, Value.cells, Value.oneCell', Nat.reduceAdd, Nat.reduceSub, Nat.reduceMul, Nat.reduceLeDiff, Int.reduceEq, Nat.reduceEqDiff, A2Fs75]
  exact ⟨hd, ((Ext.refl h).push _).push _⟩
theorem closure78 (e : En) (h : Eng.Heap) :
    CallsH Tryz.prog 78 #[.agg #[.int .i64 e.d, .int .i64 e.f, .int .i64 e.t, .int .i64 e.a]] h (fun v h' => v = .bool (decide (e.f = e.t)) ∧ Ext h h') := by
  refine CallsH_of_exec Tryz.func78 rfl bod78 ?_
  simp only [Tryz.ntmps78, Tryz.results78, coreS, stK_some, splice, Value.cells, Value.oneCell', Nat.reduceAdd, Nat.reduceSub, Nat.reduceMul, Nat.reduceLeDiff, Int.reduceEq, Nat.reduceEqDiff, A2Fs78]
  exact (Ext.refl h).push _
def idxE (p : En → Bool) (es : List En) : Int := match es.findIdx? p with | some i => i | none => -1
theorem idxE_none {p : En → Bool} {es : List En} (H : ∀ e ∈ es, p e = false) : idxE p es = -1 := by
  have : es.findIdx? p = none := by rw [List.findIdx?_eq_none_iff]; exact fun x hx => by simp [H x hx]
  simp [idxE, this]
theorem idxE_some {p : En → Bool} {es : List En} {i : Nat} (hi : i < es.length) (H : ∀ e ∈ es.take i, p e = false) (hp : p es[i] = true) : idxE p es = i := by
  have : es.findIdx? p = some i := by
    rw [List.findIdx?_eq_some_iff_getElem]
    refine ⟨hi, hp, fun j hj => ?_⟩
    have hj' : j < es.length := by omega
    have := H es[j] (by rw [List.mem_take_iff_getElem]; exact ⟨j, by omega, rfl⟩)
    simp [this]
  simp [idxE, this]
theorem indexFunc66 (a : Option Addr) (n c : Nat) (es : List En) (q : FuncId) (caps : Array Value) (p : En → Bool) (h : Eng.Heap) (hr : Row h a (ensV es)) (hn : n = es.length) (hl : n ≤ 1000000)
    (hq : ∀ e ∈ es, ∀ h', Ext h h' → CallsH Tryz.prog q (#[] ++ #[.agg #[.int .i64 e.d, .int .i64 e.f, .int .i64 e.t, .int .i64 e.a]] ++ caps) h' (fun v h'' => v = .bool (p e) ∧ Ext h' h'')) :
    CallsH Tryz.prog 66 #[.slice a n c, .func (.func q) #[] caps] h (fun v h' => v = .int .i64 (idxE p es) ∧ Ext h h') := by
  refine CallsH_of_exec Tryz.func66 rfl bod66 ?_
  simp only [Tryz.ntmps66, Tryz.results66, coreS, stK_some, splice, Value.cells, Value.oneCell', Nat.reduceAdd, Nat.reduceSub, Nat.reduceMul, Nat.reduceLeDiff, Int.reduceEq, Nat.reduceEqDiff, A2Fs66]
  refine WP_loopI [4, 5, 8, 9, 10, 11, 12, 13, 14, 15, 16, 17, 18] (fun g h' => ∃ i : Nat, i ≤ n ∧ g 8 = .int .i64 i ∧ (∀ e ∈ es.take i, p e = false) ∧ Ext h h') (fun g _ => match g 8 with | .int _ m => n - m.toNat | _ => 0) ?_ ?_
  · exact ⟨0, by omega, rfl, by simp, Ext.refl h⟩
  · rintro g h' ⟨i, hin, hg8, hno, hx⟩
    by_cases hi : i < es.length
    · have hsm : a.isSome = true := hr.isSome (by rw [ensV_length]; omega)
      have hc1 : cellsH h' (eltP a (i * 4)) 4 = some [.int .i64 es[i].d, .int .i64 es[i].f, .int .i64 es[i].t, .int .i64 es[i].a] := by
        have := (hr.ext hx).cells (j := i * 4) (n := 4) (by rw [ensV_length]; omega) (by omega)
        rw [ensV_get es i hi] at this
        exact this
      simp only [hg8, hc1, coreS, Value.cells, Value.oneCell', Nat.reduceAdd, Nat.reduceSub, Nat.reduceMul, Nat.reduceLeDiff, Int.reduceEq, Nat.reduceEqDiff, A2Fs66]
      refine ⟨fun hlt => ⟨⟨by omega, by omega⟩, hsm, ?_⟩, fun hge => absurd hge (by omega)⟩
      refine CallsH.mono (hq _ (List.getElem_mem hi) _ hx) ?_
      rintro v h2 ⟨rfl, hx2⟩
      have htk : es.take (i + 1) = es.take i ++ [es[i]] := by rw [List.take_add_one, List.getElem?_eq_getElem hi]; rfl
      cases hp : p es[i]
      · simp only [coreS, Value.cells, Value.oneCell', Nat.reduceAdd, Nat.reduceSub, Nat.reduceMul, Nat.reduceLeDiff, Int.reduceEq, Nat.reduceEqDiff, A2Fs66]
        refine ⟨by rw [inK_i64]; omega, roundK_mk (by kernel_rfl) ⟨i + 1, by omega, rfl, fun e he => ?_, hx.trans hx2⟩ ?_⟩
        · rw [htk, List.mem_append, List.mem_singleton] at he
          rcases he with he | rfl
          · exact hno e he
          · exact hp
        · show n - ((i : Int) + 1).toNat < n - (i : Int).toNat
          omega
      · simp only [coreS, Value.cells, Value.oneCell', Nat.reduceAdd, Nat.reduceSub, Nat.reduceMul, Nat.reduceLeDiff, Int.reduceEq, Nat.reduceEqDiff, A2Fs66]
        exact ⟨by rw [idxE_some hi hno hp], hx.trans hx2⟩
    · simp only [hg8, coreS, Value.cells, Value.oneCell', Nat.reduceAdd, Nat.reduceSub, Nat.reduceMul, Nat.reduceLeDiff, Int.reduceEq, Nat.reduceEqDiff, A2Fs66]
      refine ⟨fun hlt => absurd hlt (by omega), fun hge => ?_⟩
      rw [List.take_of_length_le (by omega)] at hno
      exact ⟨by rw [idxE_none hno], hx⟩
theorem containsFunc76 (a : Option Addr) (n c : Nat) (es : List En) (q : FuncId) (caps : Array Value) (p : En → Bool) (h : Eng.Heap) (hr : Row h a (ensV es)) (hn : n = es.length) (hl : n ≤ 1000000)
    (hq : ∀ e ∈ es, ∀ h', Ext h h' → CallsH Tryz.prog q (#[] ++ #[.agg #[.int .i64 e.d, .int .i64 e.f, .int .i64 e.t, .int .i64 e.a]] ++ caps) h' (fun v h'' => v = .bool (p e) ∧ Ext h' h'')) :
    CallsH Tryz.prog 76 #[.slice a n c, .func (.func q) #[] caps] h (fun v h' => v = .bool (es.any p) ∧ Ext h h') := by
  refine CallsH_of_exec Tryz.func76 rfl bod76 ?_
  simp only [Tryz.ntmps76, Tryz.results76, coreS, stK_some, splice, Value.cells, Value.oneCell', Nat.reduceAdd, Nat.reduceSub, Nat.reduceMul, Nat.reduceLeDiff, Int.reduceEq, Nat.reduceEqDiff]
  refine CallsH.mono (indexFunc66 a n c es q caps p h hr hn hl hq) ?_
  rintro v h2 ⟨rfl, hx⟩
  simp only [coreS, Value.cells, Value.oneCell', Nat.reduceAdd, Nat.reduceSub, Nat.reduceMul, Nat.reduceLeDiff, Int.reduceEq, Nat.reduceEqDiff]
  refine ⟨?_, hx⟩
  congr 1
  unfold idxE
  cases hf : es.findIdx? p with
  | none =>
    rw [List.findIdx?_eq_none_iff] at hf
    have : es.any p = false := by rw [List.any_eq_false]; intro x hx; simp [hf x hx]
    simp [this]
  | some i =>
    rw [List.findIdx?_eq_some_iff_getElem] at hf
    obtain ⟨hi, hp, _⟩ := hf
    have : es.any p = true := by rw [List.any_eq_true]; exact ⟨es[i], List.getElem_mem hi, hp⟩
    simp [this]
theorem rowE {h : Eng.Heap} {a : Option Addr} {es : List En} (hr : Row h a (ensV es)) {i : Nat} (hi : i < es.length) : cellsH h (eltP a (i * 4)) 4 = some [.int .i64 es[i].d, .int .i64 es[i].f, .int .i64 es[i].t, .int .i64 es[i].a] := by
  have := hr.cells (j := i * 4) (n := 4) (by rw [ensV_length]; omega) (by omega)
  rw [ensV_get es i hi] at this
  exact this
/-- Entries by days. -/
def sortedE (es : List En) : Prop := ∀ i (hi : i + 1 < es.length), (es[i]'(by omega)).d ≤ es[i + 1].d
theorem isSorted77 (a : Option Addr) (n c : Nat) (es : List En) (h : Eng.Heap) (hr : Row h a (ensV es)) (hn : n = es.length) (hl : n ≤ 1000000) (hd : ∀ e ∈ es, 0 ≤ e.d ∧ e.d ≤ 1000000) :
    CallsH Tryz.prog 77 #[.slice a n c, .func (.func 75) #[] #[]] h (fun v h' => ∃ b : Bool, v = .bool b ∧ (b = true ↔ sortedE es) ∧ Ext h h') := by
  refine CallsH_of_exec Tryz.func77 rfl bod77 ?_
  simp only [Tryz.ntmps77, Tryz.results77, coreS, stK_some, splice, Value.cells, Value.oneCell', Nat.reduceAdd, Nat.reduceSub, Nat.reduceMul, Nat.reduceLeDiff, Int.reduceEq, Nat.reduceEqDiff, A2Fs77]
  refine ⟨by rw [inK_i64]; omega, ?_⟩
  refine WP_loopI [4, 5, 9, 10, 11, 12, 13, 14, 15, 16, 17, 18, 19, 20, 21, 22, 23, 24] (fun g h' => ∃ i : Int, -1 ≤ i ∧ i < n ∧ g 5 = .int .i64 i ∧ (∀ j (hj : j + 1 < es.length), i < j + 1 → (es[j]'(by omega)).d ≤ es[j + 1].d) ∧ Ext h h') (fun g _ => match g 5 with | .int _ m => (m + 1).toNat | _ => 0) ⟨(n : Int) - 1, by omega, by omega, rfl, fun j hj h1 => by omega, Ext.refl h⟩ ?_
  rintro g h' ⟨i, hi1, hin, hg5, hs, hx⟩
  by_cases hi : 0 < i
  · obtain ⟨k, rfl⟩ : ∃ k : Nat, i = (k : Int) + 1 := ⟨(i - 1).toNat, by omega⟩
    have hk : k + 1 < es.length := by omega
    have hsm : a.isSome = true := hr.isSome (by rw [ensV_length]; omega)
    have hc1 := rowE (hr.ext hx) hk
    have hc2 := rowE (hr.ext hx) (show k < es.length by omega)
    have t1 : ((k : Int) + 1).toNat = k + 1 := by omega
    have t2 : ((k : Int) + 1 - 1) = k := by omega
    have d1 := hd _ (List.getElem_mem hk)
    have d2 := hd _ (List.getElem_mem (show k < es.length by omega))
    simp only [hg5, hi, decide_true, coreS, Value.cells, Value.oneCell', Nat.reduceAdd, Nat.reduceSub, Nat.reduceMul, Nat.reduceLeDiff, Int.reduceEq, Nat.reduceEqDiff, A2Fs77]
    refine WP_draw (by kernel_rfl) sta_ext [(0, 0), (1, 0), (2, 0), (3, 0), (4, 0), (5, 0), (6, 0), (7, 0), (8, 0), (9, 0), (10, 0), (11, 0)] (by kernel_rfl) rfl (by kernel_rfl) ?_
    simp only [hg5, t1, t2, hc1, hc2, Int.toNat_natCast, coreS, Value.cells, Value.oneCell', Nat.reduceAdd, Nat.reduceSub, Nat.reduceMul, Nat.reduceLeDiff, Int.reduceEq, Nat.reduceEqDiff, drawS, A2Fs77]
    refine ⟨by omega, hsm, by rw [inK_i64]; omega, by omega, hsm, ?_⟩
    refine cQ_ext _ (fun h2 x2 => CallsH.mono (closure75 es[k + 1] es[k] h2 (by rw [inK_i64]; omega)) fun v h3 q => ⟨q.1, q.2⟩) ?_
    by_cases hlt : es[k + 1].d - es[k].d < 0
    · simp only [hlt, decide_true, coreS, Value.cells, Value.oneCell', Nat.reduceAdd, Nat.reduceSub, Nat.reduceMul, Nat.reduceLeDiff, Int.reduceEq, Nat.reduceEqDiff, drawS, A2Fs77]
      refine hvK_mk fun h2 x2 => ?_
      simp only [coreS, Value.cells, Value.oneCell', Nat.reduceAdd, Nat.reduceSub, Nat.reduceMul, Nat.reduceLeDiff, Int.reduceEq, Nat.reduceEqDiff, drawS, A2Fs77]
      exact ⟨false, rfl, ⟨fun hf => (by cases hf), fun hs => by have := hs k hk; omega⟩, hx.trans x2⟩
    · simp only [hlt, decide_false, coreS, Value.cells, Value.oneCell', Nat.reduceAdd, Nat.reduceSub, Nat.reduceMul, Nat.reduceLeDiff, Int.reduceEq, Nat.reduceEqDiff, drawS, A2Fs77]
      refine hvK_mk fun h2 x2 => ?_
      simp only [coreS, Value.cells, Value.oneCell', Nat.reduceAdd, Nat.reduceSub, Nat.reduceMul, Nat.reduceLeDiff, Int.reduceEq, Nat.reduceEqDiff, drawS, A2Fs77]
      refine ⟨by rw [inK_i64]; omega, roundK_mk (by kernel_rfl) ⟨(k : Int) + 1 - 1, by omega, by omega, rfl, fun j hj h1 => ?_, hx.trans x2⟩ ?_⟩
      · by_cases hjk : j = k
        · subst hjk; omega
        · exact hs j hj (by omega)
      · show ((k : Int) + 1 - 1 + 1).toNat < ((k : Int) + 1 + 1).toNat
        omega
  · simp only [hg5, hi, decide_false, coreS, Value.cells, Value.oneCell', Nat.reduceAdd, Nat.reduceSub, Nat.reduceMul, Nat.reduceLeDiff, Int.reduceEq, Nat.reduceEqDiff, A2Fs77]
    exact ⟨true, rfl, ⟨fun _ j hj => hs j hj (by omega), fun _ => rfl⟩, hx⟩
end Go.Proofs.YtepaekbjoombpaaGreatDoor
