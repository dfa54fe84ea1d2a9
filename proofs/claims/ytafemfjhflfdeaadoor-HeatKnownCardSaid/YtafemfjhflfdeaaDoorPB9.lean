/- Texts joined by pack.py: lemmas for YtafemfjhflfdeaaDoorKnown. No condition. -/
import Derived.Test.YtafemfjhflfdeaaDoorPB8
set_option linter.unusedSimpArgs false
set_option linter.unusedVariables false
set_option linter.defProp false
section
namespace Go.Proofs.YtafemfjhflfdeaaDoor
open Go Go.Proofs Go.Eng Go.Run Tab
set_option maxRecDepth 100000
set_option linter.unusedSimpArgs false
set_option linter.unusedVariables false
set_option maxHeartbeats 4000000
set_option linter.defProp false
def H15Fs28 := (And.intro (And.intro (And.intro @agg24 @by3) (And.intro @inf24 @inf3)) (And.intro (And.intro @sz24 @sz3) (And.intro @zero3 @Tryd.underlying22)))
def H15Fs68 := (And.intro (And.intro (And.intro @agg22 @fo112_0) (And.intro @fo24_0 (And.intro @fps84_0 @fps84_1))) (And.intro (And.intro @inf22 @okf84) (And.intro @sz22 (And.intro @zero84 @Tryd.underlying22))))
def moV (m : MV) (i : Nat) : Int := match m.ov.most i with | some k => k | none => -1
theorem mo_stop {m : MV} (gd : m.Good) {i c : Nat} (hi : i < m.casts.length) (h0 : ∀ j, j ≤ c → (m.ov.lw j (i, i)).isSome) (h1 : m.ov.lw (c + 1) (i, i) = none) : moV m i = c := by
  unfold moV
  cases hm : m.ov.most i with
  | none =>
    obtain ⟨x, hx⟩ := OV.most_none gd.ok hi hm (c + 1)
    rw [h1] at hx; cases hx
  | some k =>
    obtain ⟨_, h2, h3⟩ := OV.most_some hm
    have : k = c := by
      rcases Nat.lt_trichotomy k c with h | h | h
      · have := h0 (k + 1) (by omega)
        rw [h2] at this; cases this
      · exact h
      · have := h3 (c + 1) (by omega)
        rw [h1] at this; cases this
    rw [this]
theorem mo_end {m : MV} {i : Nat} (h0 : ∀ j, j ≤ m.casts.length + 1 → (m.ov.lw j (i, i)).isSome) : moV m i = -1 := by
  unfold moV
  cases hm : m.ov.most i with
  | none => rfl
  | some k =>
    obtain ⟨h1, h2, _⟩ := OV.most_some hm
    have h3 : k ≤ m.casts.length := h1
    have := h0 (k + 1) (by omega)
    rw [h2] at this; cases this
theorem most68 (m : MV) (gd : m.Good) (hn16 : m.casts.length ≤ 16) (b : Nat) (i : Nat) (hi : i < m.casts.length) (h : Eng.Heap) (hm : m.ok h) (ho : Oven h b m) :
    CallsH Tryd.prog 68 #[.pointer (some ⟨b, 0, none⟩), .int .i64 i] h (fun v h' => v = .int .i64 (moV m i) ∧ Ext h h') := by
  have hin : m.ov.In (i, i) := ⟨hi, hi⟩
  (refine CallsH_of_exec Tryd.func68 rfl bod68 ?_; simp only [Tryd.ntmps68, Tryd.results68, coreS, stK_some, splice, Value.cells, Value.oneCell', Nat.reduceAdd, Nat.reduceSub, Nat.reduceMul, Nat.reduceLeDiff, Int.reduceEq, Nat.reduceEqDiff, H15Fs68])
  refine exec_scope ?_
  simp only [coreS, Value.cells, Value.oneCell', Nat.reduceAdd, Nat.reduceSub, Nat.reduceMul, Nat.reduceLeDiff, Int.reduceEq, Nat.reduceEqDiff, H15Fs68]
  refine WP_loopI [4, 5, 6, 7, 8, 9, 10, 11, 12, 13, 14, 15, 16, 17, 18, 19, 20, 21, 22, 23, 24, 25, 26, 27, 28, 29, 30, 31] (fun g h' => ∃ c : Nat, c ≤ m.casts.length ∧ g 5 = .int .i64 c ∧ (∀ j, j ≤ c → (m.ov.lw j (i, i)).isSome) ∧ Ext h h') (fun g _ => match g 5 with | .int _ q => m.casts.length + 1 - q.toNat | _ => 0) ⟨0, by omega, rfl, fun j hj => by rw [Nat.le_zero.1 hj]; rfl, Ext.refl h⟩ ?_
  rintro g h1 ⟨c, hc, hg5, hall, x1⟩
  have ec : (c : Int) + 1 = ((c + 1 : Nat) : Int) := by omega
  simp only [hg5, splice, coreS, Value.cells, Value.oneCell', Nat.reduceAdd, Nat.reduceSub, Nat.reduceMul, Nat.reduceLeDiff, Int.reduceEq, Nat.reduceEqDiff, H15Fs68]
  refine ⟨by rw [inK_i64]; omega, ?_⟩
  rw [ec]
  refine CallsH.mono (plan90 m gd hn16 b (i, i) (c + 1) (by omega) h1 hin (hm.ext x1) (x1.get ho)) ?_
  rintro v h2 ⟨rfl, x2⟩
  have x12 := x1.trans x2
  have o2 := x12.get ho
  cases hl : m.ov.lw (c + 1) (i, i) with
  | none =>
    rw [mo_stop gd hi hall hl]
    simp only [hl, Option.isSome_none, Bool.false_eq_true, if_false, Bool.not_false, scopeK_ret, scopeK_normal, scopeK_exit, coreS, Value.cells, Value.oneCell', Nat.reduceAdd, Nat.reduceSub, Nat.reduceMul, Nat.reduceLeDiff, Int.reduceEq, Nat.reduceEqDiff, H15Fs68]
    exact x12
  | some y =>
    have hall' : ∀ j, j ≤ c + 1 → (m.ov.lw j (i, i)).isSome := fun j hj => by
      by_cases h : j = c + 1
      · subst h; rw [hl]; rfl
      · exact hall j (by omega)
    by_cases hcn : c = m.casts.length
    · subst hcn
      rw [mo_end hall']
      simp only [hl, o2, Option.isSome_some, if_true, Bool.not_true, decide_true, scopeK_ret, scopeK_normal, scopeK_exit, coreS, Value.cells, Value.oneCell', Nat.reduceAdd, Nat.reduceSub, Nat.reduceMul, Nat.reduceLeDiff, Int.reduceEq, Nat.reduceEqDiff, H15Fs68]
      exact x12
    · have hcn' : ¬ (c : Int) = m.casts.length := by omega
      simp only [hl, o2, hcn', Option.isSome_some, if_true, Bool.not_true, decide_false, scopeK_ret, scopeK_normal, scopeK_exit, coreS, Value.cells, Value.oneCell', Nat.reduceAdd, Nat.reduceSub, Nat.reduceMul, Nat.reduceLeDiff, Int.reduceEq, Nat.reduceEqDiff, H15Fs68]
      refine ⟨by rw [inK_i64]; omega, roundK_mk (by kernel_rfl) ⟨c + 1, by omega, rfl, hall', x12⟩ ?_⟩
      show m.casts.length + 1 - ((c : Int) + 1).toNat < m.casts.length + 1 - (c : Int).toNat
      omega
def moE (m : MV) (x : Int) : Int := if opn m [x] ≠ 0 then opn m [x] else if moV m x.toNat < 0 then 4 else 0
def moW (m : MV) (x : Int) : Int := if moE m x = 0 then moV m x.toNat else 0
theorem most28 (m : MV) (x : Int) (h : Eng.Heap) (hm : m.ok h) :
    CallsH Tryd.prog 28 #[m.val, .int .i64 x] h (fun v h' => v = .tuple #[.int .i64 (moW m x), .int .i64 (moE m x)] ∧ Ext h h') := by
  have x0 : Ext h (h.push (.cells #[.slice m.a m.casts.length m.ca, .slice m.b m.waits.length m.cb, .int .i64 m.lo, .int .i64 m.hi] 24)) := (Ext.refl h).push _
  (refine CallsH_of_exec Tryd.func28 rfl bod28 ?_; simp only [Tryd.ntmps28, Tryd.results28, coreS, stK_some, splice, Value.cells, Value.oneCell', Nat.reduceAdd, Nat.reduceSub, Nat.reduceMul, Nat.reduceLeDiff, Int.reduceEq, Nat.reduceEqDiff, H15Fs28])
  refine CallsH.mono (open56 m _ 1 1 [x] _ (hm.ext (x0.push _)) (intsV_one pn1) (by omega)) ?_
  rintro v h1 ⟨x1, h1'⟩
  have y1 := (x0.push _).trans x1
  rcases h1' with ⟨e0, b, rfl, ho, hbs⟩ | ⟨e0, rfl⟩
  · obtain ⟨i, rfl, hi, h16, gd⟩ := opn_in e0
    have eE : moE m i = if moV m i < 0 then 4 else 0 := by rw [moE, if_neg (by simpa using e0)]; rfl
    simp only [decide_true, Bool.not_true, coreS, Value.cells, Value.oneCell', Nat.reduceAdd, Nat.reduceSub, Nat.reduceMul, Nat.reduceLeDiff, Int.reduceEq, Nat.reduceEqDiff, H15Fs28]
    refine CallsH.mono (most68 m gd h16 b i hi h1 (hm.ext y1) ho) ?_
    rintro v h2 ⟨rfl, x2⟩
    by_cases hneg : moV m i < 0
    · rw [if_pos hneg] at eE
      have eW : moW m i = 0 := by rw [moW, if_neg (by omega)]
      rw [eE, eW]
      simp only [hneg, decide_true, coreS, Value.cells, Value.oneCell', Nat.reduceAdd, Nat.reduceSub, Nat.reduceMul, Nat.reduceLeDiff, Int.reduceEq, Nat.reduceEqDiff, H15Fs28]
      exact y1.trans x2
    · rw [if_neg hneg] at eE
      have eW : moW m i = moV m i := by rw [moW, if_pos eE]; rfl
      rw [eE, eW]
      simp only [hneg, decide_false, coreS, Value.cells, Value.oneCell', Nat.reduceAdd, Nat.reduceSub, Nat.reduceMul, Nat.reduceLeDiff, Int.reduceEq, Nat.reduceEqDiff, H15Fs28]
      exact y1.trans x2
  · have eE : moE m x = opn m [x] := by rw [moE, if_pos e0]
    have eW : moW m x = 0 := by rw [moW, if_neg (by rw [eE]; exact e0)]
    rw [eE, eW]
    simp only [e0, decide_false, Bool.not_false, coreS, Value.cells, Value.oneCell', Nat.reduceAdd, Nat.reduceSub, Nat.reduceMul, Nat.reduceLeDiff, Int.reduceEq, Nat.reduceEqDiff, H15Fs28]
    exact y1
end Go.Proofs.YtafemfjhflfdeaaDoor
end
section
namespace Go.Proofs.YtafemfjhflfdeaaDoor
open Go Go.Proofs Go.Eng Go.Run Tab
set_option maxRecDepth 100000
set_option linter.unusedSimpArgs false
set_option linter.unusedVariables false
set_option maxHeartbeats 4000000
set_option linter.defProp false
theorem app22 {h : Eng.Heap} {er : Env} {ty : TypeId} {m0 : Nat} {x y : Operand} {a b : Option Addr} {len cap m c : Nat} {xs ys : List Int} {K : Value → Eng.Heap → Prop} (hx : ev er x = .slice a len cap) (hy : ev er y = .slice b m c) (O : OwnI m0 h 3 a len cap xs) (h0h : m0 ≤ h.size) (I : IntsV h b m ys) (hb : len + m ≤ 100000)
    (H : ∀ a' cap' h', OwnI m0 h' 3 a' (len + m) cap' (xs ++ ys) → App h h' a a' → K (.slice a' (len + m) cap') h') : opSem Tryd.prog (.call ⟨.builtin .append, #[x, y], #[22, 22]⟩) ty er h K :=
  append_intsT Tryd.underlying22 Tryd.underlying22 inf3 sz3 (by rw [by3]; decide) zero3 hx hy O h0h I hb H
def moL (m : MV) (x : Nat) : List Int := (List.range x).map fun i => moV m i
theorem moL_succ (m : MV) (x : Nat) : moL m (x + 1) = moL m x ++ [moV m x] := by simp [moL, List.range_succ]
theorem moL_length (m : MV) (x : Nat) : (moL m x).length = x := by simp [moL]
end Go.Proofs.YtafemfjhflfdeaaDoor
end
section
namespace Go.Proofs.YtafemfjhflfdeaaDoor
open Go Go.Proofs Go.Eng Go.Run Tab
set_option maxRecDepth 100000
set_option linter.unusedSimpArgs false
set_option linter.unusedVariables false
set_option linter.defProp false
set_option maxHeartbeats 4000000
set_option linter.defProp false
def H17Fs30 := (And.intro (And.intro (And.intro @agg22 (And.intro @agg24 @agg3)) (And.intro (And.intro @by3 @fo24_0) (And.intro @inf22 @inf24))) (And.intro (And.intro (And.intro @inf3 @sz22) (And.intro @sz24 @sz3)) (And.intro (And.intro @zero3 @zero97) (And.intro @Tryd.underlying22 @Tryd.underlying97))))
def LabV (m : MV) (v : Value) (h : Eng.Heap) : Prop := (chk m = 0 ∧ ∃ a c, v = .tuple #[.slice a m.casts.length c, .int .i64 0] ∧ IntsV h a m.casts.length (moL m m.casts.length)) ∨ (chk m ≠ 0 ∧ v = .tuple #[.slice none 0 0, .int .i64 (chk m)])
theorem labels30 (m : MV) (h : Eng.Heap) (hm : m.ok h) : CallsH Tryd.prog 30 #[m.val] h (fun v h' => LabV m v h' ∧ Ext h h') := by
  have x0 : Ext h (h.push (.cells #[.slice m.a m.casts.length m.ca, .slice m.b m.waits.length m.cb, .int .i64 m.lo, .int .i64 m.hi] 24)) := (Ext.refl h).push _
  have hb := push_new (h := h) (o := .cells #[.slice m.a m.casts.length m.ca, .slice m.b m.waits.length m.cb, .int .i64 m.lo, .int .i64 m.hi] 24)
  have eO : opn m [] = chk m := by
    unfold opn
    split
    · rfl
    · rename_i h1; rw [Classical.not_not.1 h1]; rfl
  (refine CallsH_of_exec Tryd.func30 rfl bod30 ?_; simp only [Tryd.ntmps30, Tryd.results30, coreS, stK_some, splice, Value.cells, Value.oneCell', Nat.reduceAdd, Nat.reduceSub, Nat.reduceMul, Nat.reduceLeDiff, Int.reduceEq, Nat.reduceEqDiff, H17Fs30])
  refine CallsH.mono (open56 m none 0 0 [] _ (hm.ext x0) (IntsV.nil _) (by omega)) ?_
  rintro v h1 ⟨x1, h1'⟩
  have y1 := x0.trans x1
  have b1 := x1.get hb
  rw [eO] at h1'
  rcases h1' with ⟨e0, b, rfl, ho, hbs⟩ | ⟨e0, rfl⟩
  · have hp := chk_pos e0
    have gd := good_of e0
    have hop : m.casts.length ≤ 16 := hp.1.2
    simp only [e0, decide_true, Bool.not_true, splice, coreS, Value.cells, Value.oneCell', Nat.reduceAdd, Nat.reduceSub, Nat.reduceMul, Nat.reduceLeDiff, Int.reduceEq, Nat.reduceEqDiff, H17Fs30]
    refine ⟨by decide, by decide, by decide, by decide, ?_⟩
    refine clear_intsT (g := h1.size) (off := 0) (n := 16) (c := 16) (z := 0) (cur := Eng.ints (List.replicate 16 0)) Tryd.underlying22 zero3 (by rfl) push_new (by decide) fun h2 g2 u2 => ?_
    have e2 : Eng.splice (Eng.ints (List.replicate 16 0)) 0 (List.replicate 16 (.int .i64 0)) = Eng.ints (moL m 0 ++ List.replicate (16 - 0) 0) := by rfl
    rw [e2] at g2
    have y2 : Ext h h2 := (u2.ext (y1.push _) y1.size)
    have xo2 : Ext h1 h2 := u2.ext ((Ext.refl h1).push _) (Nat.le_refl _)
    simp only [xo2.get b1, coreS, Value.cells, Value.oneCell', Nat.reduceAdd, Nat.reduceSub, Nat.reduceMul, Nat.reduceLeDiff, Int.reduceEq, Nat.reduceEqDiff, H17Fs30]
    have hs1 := y1.size
    refine WP_loopI [7, 21, 22, 23, 24, 25, 26, 27, 28, 29] (fun g h3 => ∃ i : Nat, i ≤ m.casts.length ∧ g 21 = .int .i64 i ∧ h3[h1.size]? = some (.cells (ints (moL m i ++ List.replicate (16 - i) 0)).toArray 97) ∧ Ext h1 h3) (fun g _ => match g 21 with | .int _ q => m.casts.length - q.toNat | _ => 0) ⟨0, by omega, rfl, g2, xo2⟩ ?_
    rintro g h3 ⟨i, hi, hg, g3, x3⟩
    by_cases hin : i < m.casts.length
    · have hlt : (i : Int) < m.casts.length := by omega
      simp only [hg, hlt, decide_true, coreS, Value.cells, Value.oneCell', Nat.reduceAdd, Nat.reduceSub, Nat.reduceMul, Nat.reduceLeDiff, Int.reduceEq, Nat.reduceEqDiff, H17Fs30]
      refine CallsH.mono (most68 m gd hop b i hin h3 (hm.ext (y1.trans x3)) (x3.get ho)) ?_
      rintro v h4 ⟨rfl, x4⟩
      have g4 := x4.get g3
      simp only [g4, Int.toNat_natCast, coreS, Value.cells, Value.oneCell', Nat.reduceAdd, Nat.reduceSub, Nat.reduceMul, Nat.reduceLeDiff, Int.reduceEq, Nat.reduceEqDiff, H17Fs30]
      refine ⟨⟨by omega, by omega⟩, ?_⟩
      refine stK_int g4 (by rw [List.length_append, moL_length, List.length_replicate]; omega) fun h5 g5 u5 => ?_
      have e5 : (moL m i ++ List.replicate (16 - i) 0).set i (moV m i) = moL m (i + 1) ++ List.replicate (16 - (i + 1)) 0 := by
        rw [moL_succ, show 16 - i = (16 - (i + 1)) + 1 by omega, List.replicate_succ, List.append_assoc]
        have := set_mid (moL m i) (16 - (i + 1)) 0 (moV m i)
        rwa [moL_length] at this
      rw [e5] at g5
      simp only [coreS, Value.cells, Value.oneCell', Nat.reduceAdd, Nat.reduceSub, Nat.reduceMul, Nat.reduceLeDiff, Int.reduceEq, Nat.reduceEqDiff, H17Fs30]
      refine ⟨by rw [inK_i64]; omega, roundK_mk (by kernel_rfl) ⟨i + 1, by omega, rfl, g5, u5.ext (x3.trans x4) (Nat.le_refl _)⟩ ?_⟩
      show m.casts.length - ((i : Int) + 1).toNat < m.casts.length - (i : Int).toNat
      omega
    · have hlt : ¬ (i : Int) < m.casts.length := by omega
      obtain rfl : i = m.casts.length := by omega
      obtain ⟨n, hn⟩ : ∃ n, m.casts.length = n := ⟨_, rfl⟩
      simp only [hg, hlt, x3.get b1, decide_false, coreS, Value.cells, Value.oneCell', Nat.reduceAdd, Nat.reduceSub, Nat.reduceMul, Nat.reduceLeDiff, Int.reduceEq, Nat.reduceEqDiff, H17Fs30]
      refine ⟨by omega, by omega, by omega, by omega, by decide, by decide, by decide, by decide, ?_⟩
      refine copy_intsT (g := h3.size) (off := 0) (n := m.casts.length) (c := m.casts.length) (cur := Eng.ints (List.replicate m.casts.length 0)) (b := some ⟨h1.size, 0, none⟩) (m := 16) (c2 := 16) (ys := moL m m.casts.length ++ List.replicate (16 - m.casts.length) 0) Tryd.underlying22 Tryd.underlying22 inf3 sz3 (by rfl) (by rfl) (ct := 3) (by simp [Eng.ints]) (by rw [Eng.ints_length, List.length_replicate]; omega) ⟨by rw [List.length_append, moL_length, List.length_replicate]; omega, Row.block (((Ext.refl h3).push _).get g3)⟩ fun h4 g4 u4 => ?_
      have e4 : (moL m m.casts.length ++ List.replicate (16 - m.casts.length) 0).take m.casts.length = moL m m.casts.length := by
        rw [List.take_append_of_le_length (by rw [moL_length]; exact Nat.le_refl _), List.take_of_length_le (by rw [moL_length]; exact Nat.le_refl _)]
      rw [e4] at g4
      have y4 : Ext h h4 := u4.ext ((y1.trans x3).push _) (y1.trans x3).size
      simp only [coreS, Value.cells, Value.oneCell', Nat.reduceAdd, Nat.reduceSub, Nat.reduceMul, Nat.reduceLeDiff, Int.reduceEq, Nat.reduceEqDiff, H17Fs30]
      refine ⟨.inl ⟨e0, _, _, rfl, ⟨(moL_length _ _).symm ▸ rfl, ?_⟩⟩, y4⟩
      have h5 := Row.block g4
      have e6 : splice (Eng.ints (List.replicate m.casts.length 0)) 0 (ints (moL m m.casts.length)) = ints (moL m m.casts.length) := by
        rw [splice, List.take_zero, List.nil_append, List.drop_of_length_le (by rw [Eng.ints_length, Eng.ints_length, List.length_replicate, moL_length]; omega), List.append_nil]
      rwa [e6] at h5
  · simp only [e0, decide_false, Bool.not_false, coreS, Value.cells, Value.oneCell', Nat.reduceAdd, Nat.reduceSub, Nat.reduceMul, Nat.reduceLeDiff, Int.reduceEq, Nat.reduceEqDiff, H17Fs30]
    exact ⟨.inr ⟨e0, rfl⟩, y1⟩
end Go.Proofs.YtafemfjhflfdeaaDoor
end
section
namespace Go.Proofs.YtafemfjhflfdeaaDoor
open Go Go.Proofs Go.Eng Go.Run Tab
set_option maxRecDepth 100000
set_option linter.unusedSimpArgs false
set_option linter.unusedVariables false
set_option linter.defProp false
set_option maxHeartbeats 4000000
set_option linter.defProp false
def H18Fs32 := (And.intro (And.intro @agg3 @by3) (And.intro @inf3 (And.intro @sz3 @Tryd.underlying22)))
theorem ext_getD {xs ys : List Int} (hl : xs.length = ys.length) (H : ∀ i < xs.length, xs.getD i 0 = ys.getD i 0) : xs = ys := by
  apply List.ext_getElem hl
  intro i h1 h2
  have := H i h1
  simpa [List.getD, List.getElem?_eq_getElem h1, List.getElem?_eq_getElem h2] using this
theorem ints32 (a b : Option Addr) (n c m k : Nat) (xs ys : List Int) (h : Eng.Heap) (hx : IntsV h a n xs) (hy : IntsV h b m ys) (hl : n ≤ 1000000) (hm : m ≤ 1000000) :
    CallsH Tryd.prog 32 #[.slice a n c, .slice b m k] h (fun v h' => v = .bool (decide (xs = ys)) ∧ h' = h) := by
  have hn := hx.len
  have hn2 := hy.len
  (refine CallsH_of_exec Tryd.func32 rfl bod32 ?_; simp only [Tryd.ntmps32, Tryd.results32, coreS, stK_some, splice, Value.cells, Value.oneCell', Nat.reduceAdd, Nat.reduceSub, Nat.reduceMul, Nat.reduceLeDiff, Int.reduceEq, Nat.reduceEqDiff, H18Fs32])
  by_cases he : n = m
  · subst he
    simp only [decide_true, Bool.not_true, coreS, Value.cells, Value.oneCell', Nat.reduceAdd, Nat.reduceSub, Nat.reduceMul, Nat.reduceLeDiff, Int.reduceEq, Nat.reduceEqDiff, H18Fs32]
    refine WP_loopI [4, 5, 11, 12, 13, 14, 15, 16, 17, 18, 19, 20, 21, 22, 23, 24, 25] (fun g h' => h' = h ∧ ∃ i : Nat, i ≤ n ∧ g 5 = .int .i64 i ∧ ∀ j < i, xs.getD j 0 = ys.getD j 0) (fun g _ => match g 5 with | .int _ m => n - m.toNat | _ => 0) ⟨rfl, 0, by omega, rfl, fun j hj => by omega⟩ ?_
    rintro g h' ⟨rfl, i, hin, hg, hno⟩
    by_cases hi : i < n
    · simp only [hg, coreS, Value.cells, Value.oneCell', Nat.reduceAdd, Nat.reduceSub, Nat.reduceMul, Nat.reduceLeDiff, Int.reduceEq, Nat.reduceEqDiff, H18Fs32]
      refine ⟨fun _ => ?_, fun hge => absurd hge (by omega)⟩
      refine WP_draw (by kernel_rfl) sta_eq [(0, 0), (1, 0), (2, 0), (3, 0), (4, 0), (5, 0), (6, 0), (7, 0), (8, 0)] (by kernel_rfl) rfl (by kernel_rfl) ?_
      simp only [hg, hx.cell (j := i) (by omega), hy.cell (j := i) (by omega), Int.toNat_natCast, hvK_eq, coreS, Value.cells, Value.oneCell', Nat.reduceAdd, Nat.reduceSub, Nat.reduceMul, Nat.reduceLeDiff, Int.reduceEq, Nat.reduceEqDiff, drawS, H18Fs32]
      repeat (refine And.intro (by first | omega | (rw [inK_i64]; omega) | rfl | assumption | (exact hx.isSome (by omega)) | (exact hy.isSome (by omega))) ?_)
      by_cases hxy : xs.getD i 0 = ys.getD i 0
      · simp only [hxy, decide_true, Bool.not_true, coreS, Value.cells, Value.oneCell', Nat.reduceAdd, Nat.reduceSub, Nat.reduceMul, Nat.reduceLeDiff, Int.reduceEq, Nat.reduceEqDiff, H18Fs32]
        refine ⟨by rw [inK_i64]; omega, roundK_mk (by kernel_rfl) ⟨rfl, i + 1, by omega, rfl, fun j hj => ?_⟩ ?_⟩
        · by_cases hji : j = i
          · subst hji; exact hxy
          · exact hno j (by omega)
        · show n - ((i : Int) + 1).toNat < n - (i : Int).toNat
          omega
      · have hne : ¬ xs = ys := fun hh => hxy (by rw [hh])
        simp only [hxy, decide_false, Bool.not_false, coreS, Value.cells, Value.oneCell', Nat.reduceAdd, Nat.reduceSub, Nat.reduceMul, Nat.reduceLeDiff, Int.reduceEq, Nat.reduceEqDiff, H18Fs32]
        simp [hne]
    · have hxy : xs = ys := ext_getD (by omega) fun j hj => hno j (by omega)
      simp only [hg, coreS, Value.cells, Value.oneCell', Nat.reduceAdd, Nat.reduceSub, Nat.reduceMul, Nat.reduceLeDiff, Int.reduceEq, Nat.reduceEqDiff, H18Fs32]
      refine ⟨fun hlt => absurd hlt (by omega), fun _ => ?_⟩
      simp [hxy]
  · have hne : ¬ xs = ys := fun hh => he (by rw [hn, hn2, hh])
    have he2 : ¬ (n : Int) = m := by omega
    simp only [he2, decide_false, Bool.not_false, coreS, Value.cells, Value.oneCell', Nat.reduceAdd, Nat.reduceSub, Nat.reduceMul, Nat.reduceLeDiff, Int.reduceEq, Nat.reduceEqDiff, H18Fs32]
    simp [hne]
def badL (m : MV) (L : List Int) (i : Nat) : Prop := 0 ≤ L.getD i 0 ∧ ((L.getD (m.ov.w i) 0 < 0 ∨ L.getD i 0 < L.getD (m.ov.w i) 0) ∨ (m.ov.can (i, i) = true ∧ (L.getD (m.ov.c i) 0 < 0 ∨ L.getD i 0 ≤ L.getD (m.ov.c i) 0)))
end Go.Proofs.YtafemfjhflfdeaaDoor
end
section
namespace Go.Proofs.YtafemfjhflfdeaaDoor
open Go Go.Proofs Go.Eng Go.Run Tab
set_option maxRecDepth 100000
set_option linter.unusedSimpArgs false
set_option linter.unusedVariables false
set_option linter.defProp false
set_option maxHeartbeats 4000000
set_option linter.defProp false
instance (m : MV) (L : List Int) (i : Nat) : Decidable (badL m L i) := by unfold badL; infer_instance
def cklE (m : MV) (L : List Int) : Int := if chk m ≠ 0 then chk m else if L.length ≠ m.casts.length then 15 else if inB (-1) 30 L = false then 3 else if ∃ i < m.casts.length, badL m L i then 14 else 0
end Go.Proofs.YtafemfjhflfdeaaDoor
end
section
set_option linter.unusedVariables false
set_option linter.unusedSimpArgs false
namespace Go.Eng
open Go
section yields
variable {P : Program} {l : Option Nat} {h : Heap} {e : Env} {d : List Deferred} {k : Cont}
def SeqOfE (P : Program) (v : Value) (F : Heap → Prop) (xss : List (List Value)) : Prop :=
  ∃ q first caps, v = .func (.func q) first caps ∧ ∀ (lo : Nat) (h0 : Heap) (J : Nat → Heap → Prop) (E : Heap → Prop), (∀ i h', J i h' → F h') → (∀ i h1 h2, J i h1 → Ext h1 h2 → J i h2) → J 0 h0 →
    (∀ i h' vs, xss[i]? = some vs → J i h' → CallY P (.func (.yield lo) #[] #[]) vs h' (fun v h'' => (v = .bool true ∧ J (i + 1) h'') ∨ (v = .bool false ∧ E h''))) →
    CallsH P q (first ++ #[.func (.yield lo) #[] #[]] ++ caps) h0 (fun _ h' => J xss.length h' ∨ E h')
theorem WP_rangeE {f : Operand} {ps : Array Tmp} {a b : Code} {v : Value} {F : Heap → Prop} {xss : List (List Value)} (hf : ev e f = v) (hseq : SeqOfE P v F xss) (Inv : Nat → Heap → Prop) (Br : Code → Heap → Prop)
    (hps : ∀ vs ∈ xss, vs.length = ps.size)
    (hext : ∀ i h', Inv i h' → F h')
    (hpush : ∀ i h1 h2, Inv i h1 → Ext h1 h2 → Inv i h2)
    (hupd : ∀ i h1 h2, Inv i h1 → Upd h1 h2 (h.size + 1) → Inv i h2) (bupd : ∀ j h1 h2, Br j h1 → Upd h1 h2 (h.size + 1) → Br j h2)
    (start : ∀ h', Ext h h' → h'[h.size]? = some (.deferred (some [])) → h'.size = h.size + 2 → Inv 0 h')
    (round : ∀ i h' vs o, xss[i]? = some vs → Inv i h' → h'[h.size + 1]? = some o → exec (some (h.size + 1)) P a (asgI P (h.size + 1) o b (Inv (i + 1)) Br) (binds ps.toList vs e) [] h')
    (fin : ∀ h', Inv xss.length h' → k .normal e (mkD h.size :: d) h')
    (brk : ∀ j h', Br j h' → exec none P j k e (mkD h.size :: d) h') : WP none P (.rangeFunc f ps a b) k e d h := by
  obtain ⟨q, first, caps, rfl, hq⟩ := hseq
  refine WP_range' hf ?_
  intro R R1 R2 R3 R4 R5 R6 R7
  have hsz : (h.push (.deferred (some []))).size = h.size + 1 := by simp
  refine CallsH.mono (hq (h.size + 1) _ (fun i h' => Inv i h' ∧ h'[h.size + 1]? = some (.loop R)) (fun h' => ∃ (rec : Loop) (j : Code), h'[h.size + 1]? = some (.loop rec) ∧ rec.state = .done ∧ rec.pending = some j ∧ Br j h') (fun i h' H => hext i h' H.1) (fun i h1 h2 H x => ⟨hpush _ _ _ H.1 x, x.get H.2⟩) ?_ ?_) ?_
  · refine ⟨start _ (((Ext.refl h).push _).push _) (push_old push_new) (by simp), ?_⟩
    have := push_new (h := h.push (.deferred (some []))) (o := .loop R)
    rwa [hsz] at this
  · rintro i h' vs hvs ⟨hI, hR⟩
    refine callY_yield hR (by rw [R4]; exact hps _ (List.mem_of_getElem? hvs)) ?_
    rw [R3, R4, R5, R6, List.toList_toArray]
    refine exec_mono a ?_ _ _ _ (round i h' vs _ hvs hI hR)
    rintro x e2 d2 h2 ⟨rfl, h2o, H⟩
    refine asgY_normal h2o R1 ?_
    refine exec_mono b ?_ _ _ _ (H _ _ Upd.set (set_get (lt_of_get h2o)))
    rintro x e3 d3 h3 ⟨h3o, H3⟩
    cases x with
    | normal =>
      refine ⟨_, h3o, ?_⟩
      refine .inl ⟨rfl, hupd _ _ _ H3 Upd.set, ?_⟩
      show (h3.setIfInBounds _ _)[_]? = _
      rw [set_get (lt_of_get h3o), Loop.back R1 R2]
    | ret =>
      refine ⟨_, h3o, ?_⟩
      exact .inr ⟨rfl, _, _, set_get (lt_of_get h3o), rfl, rfl, bupd _ _ _ H3 Upd.set⟩
    | exit j =>
      refine ⟨_, h3o, ?_⟩
      exact .inr ⟨rfl, _, _, set_get (lt_of_get h3o), rfl, rfl, bupd _ _ _ H3 Upd.set⟩
    | _ => exact H3.elim
  · rintro v h' (⟨hI, hR⟩ | ⟨rec, j, hR, hst, hpd, hB⟩)
    · refine ⟨_, hR, by rw [R1]; decide, ?_⟩
      rw [R2]
      exact fin _ (hupd _ _ _ hI Upd.set)
    · refine ⟨_, hR, by rw [hst]; decide, ?_⟩
      rw [hpd]
      exact brk _ _ (bupd _ _ _ hB Upd.set)
end yields
end Go.Eng
end
section
set_option linter.unusedVariables false
set_option linter.unusedSimpArgs false
namespace Go.Eng
open Go
section loopd
variable {l : Option Nat} {P : Program}
def roundD (e0 : Env) (ws : List Nat) (I : (Nat → Value) → List Deferred → Heap → Prop) (μ : (Nat → Value) → Heap → Nat) (n : Nat) (e : Env) (d : List Deferred) (h : Heap) : Prop :=
  e = mkE e0 ws (fun i => e.getD i undef) ∧ I (fun i => e.getD i undef) d h ∧ μ (fun i => e.getD i undef) h < n
theorem roundD_mk {e0 e : Env} {d : List Deferred} {ws : List Nat} {I : (Nat → Value) → List Deferred → Heap → Prop} {μ : (Nat → Value) → Heap → Nat} {n : Nat} {h : Heap}
    (h1 : e = mkE e0 ws (fun i => e.getD i undef)) (h2 : I (fun i => e.getD i undef) d h) (h3 : μ (fun i => e.getD i undef) h < n) : roundD e0 ws I μ n e d h := ⟨h1, h2, h3⟩
theorem WP_loopD {c : Code} {k : Cont} {e : Env} {d : List Deferred} {h : Heap} (ws : List Nat) (I : (Nat → Value) → List Deferred → Heap → Prop) (μ : (Nat → Value) → Heap → Nat)
    (h0 : I (fun i => e.getD i undef) d h)
    (round : ∀ g d' h', I g d' h' → exec l P c (thenK (roundD e ws I μ (μ g h')) k) (mkE e ws g) d' h') : WP l P (.loop c) k e d h := by
  unfold WP
  intro w hw
  refine wpIn_loop (fun a w' => (a.tmps.toList = mkE e ws (fun i => a.tmps.toList.getD i undef) ∧ I (fun i => a.tmps.toList.getD i undef) a.defers w'.heap) ∧ Rest w w')
    (fun a w' => μ (fun i => a.tmps.toList.getD i undef) w'.heap) ⟨⟨by rw [mkE_self], by subst hw; simpa using h0⟩, Rest.refl w⟩ ?_
  rintro a w' ⟨⟨he', hI⟩, hr⟩
  have h1 := round _ _ w'.heap hI
  rw [← he'] at h1
  have h1 := exec_sound _ _ _ _ _ h1
  unfold WP at h1
  have h1 := h1 w' rfl
  rw [toList_act] at h1
  refine wpIn_mono h1 ?_
  rintro x a' w'' ⟨hq, hr'⟩
  cases x with
  | normal =>
    unfold thenK at hq
    obtain ⟨q1, q2, q3⟩ := hq
    exact ⟨⟨⟨q1, q2⟩, hr.trans hr'⟩, q3⟩
  | _ => unfold thenK at hq; exact ⟨hq, hr.trans hr'⟩
attribute [irreducible] roundD
def Marks (m0 m1 : Nat) (h : Heap) (d : List Deferred) : Prop := ∃ rs : List Nat, d = rs.map mkD ∧ rs.Nodup ∧ ∀ r ∈ rs, m0 ≤ r ∧ r < m1 ∧ h[r]? = some (.deferred (some []))
theorem Marks.nil (m0 m1 : Nat) (h : Heap) : Marks m0 m1 h [] := ⟨[], rfl, List.nodup_nil, by simp⟩
theorem Marks.keep {m0 m1 : Nat} {h h' : Heap} {d : List Deferred} (M : Marks m0 m1 h d) (hk : ∀ r, m0 ≤ r → r < m1 → ∀ o, h[r]? = some o → h'[r]? = some o) : Marks m0 m1 h' d := by
  obtain ⟨rs, h1, h2, h3⟩ := M
  exact ⟨rs, h1, h2, fun r hr => ⟨(h3 r hr).1, (h3 r hr).2.1, hk r (h3 r hr).1 (h3 r hr).2.1 _ (h3 r hr).2.2⟩⟩
theorem Marks.ext {m0 m1 : Nat} {h h' : Heap} {d : List Deferred} (M : Marks m0 m1 h d) (x : Ext h h') : Marks m0 m1 h' d := M.keep fun _ _ _ _ ho => x.get ho
theorem Marks.upd {m0 m1 b : Nat} {h h' : Heap} {d : List Deferred} (M : Marks m0 m1 h d) (u : Upd h h' b) (hb : b < m0 ∨ m1 ≤ b) : Marks m0 m1 h' d := M.keep fun r h1 h2 _ ho => u.get ho (by omega)
theorem Marks.mono {m0 m1 m2 : Nat} {h : Heap} {d : List Deferred} (M : Marks m0 m1 h d) (hm : m1 ≤ m2) : Marks m0 m2 h d := by
  obtain ⟨rs, h1, h2, h3⟩ := M
  exact ⟨rs, h1, h2, fun r hr => ⟨(h3 r hr).1, Nat.lt_of_lt_of_le (h3 r hr).2.1 hm, (h3 r hr).2.2⟩⟩
theorem Marks.cons {m0 m1 m2 r : Nat} {h : Heap} {d : List Deferred} (M : Marks m0 m1 h d) (hr : h[r]? = some (.deferred (some []))) (h0 : m0 ≤ r) (h1 : m1 ≤ r) (h2 : r < m2) : Marks m0 m2 h (mkD r :: d) := by
  obtain ⟨rs, h3, h4, h5⟩ := M
  refine ⟨r :: rs, by rw [h3]; rfl, List.nodup_cons.2 ⟨fun hm => ?_, h4⟩, fun q hq => ?_⟩
  · have := (h5 r hm).2.1; omega
  · rcases List.mem_cons.1 hq with rfl | hq
    · exact ⟨h0, h2, hr⟩
    · have := h5 q hq; exact ⟨this.1, by omega, this.2.2⟩
theorem fin_marks {rs : List ResultVar} {K : Value → Heap → Prop} {e : Env} {m0 m1 : Nat} {h : Heap} {d : List Deferred} (M : Marks m0 m1 h d)
    (H : ∀ h', h'.size = h.size → (∀ b, (b < m0 ∨ m1 ≤ b) → h'[b]? = h[b]?) → resA P rs e [] K h') : finW P rs e d h K := by
  obtain ⟨ls, rfl, hnd, hls⟩ := M
  unfold finW
  have key : ∀ (ls : List Nat) (h : Heap), ls.Nodup → (∀ r ∈ ls, m0 ≤ r ∧ r < m1 ∧ h[r]? = some (.deferred (some []))) → Marked h (ls.map mkD) ∧ (unmark h (ls.map mkD)).size = h.size ∧ ∀ b, (b < m0 ∨ m1 ≤ b) → (unmark h (ls.map mkD))[b]? = h[b]? := by
    intro ls
    induction ls with
    | nil => intro h _ _; exact ⟨trivial, rfl, fun _ _ => rfl⟩
    | cons r ls ih =>
      intro h hnd hls
      have hr := hls r List.mem_cons_self
      have h2 := List.nodup_cons.1 hnd
      have := ih (h.setIfInBounds r (.deferred none)) h2.2 (fun q hq => by
        have h3 := hls q (List.mem_cons_of_mem _ hq)
        exact ⟨h3.1, h3.2.1, by
          have hne : r ≠ q := fun he => h2.1 (by rw [he]; exact hq)
          rw [Array.getElem?_setIfInBounds_ne hne]; exact h3.2.2⟩)
      refine ⟨⟨r, rfl, hr.2.2, this.1⟩, ?_, fun b hb => ?_⟩
      · show (unmark (h.setIfInBounds r (.deferred none)) (ls.map mkD)).size = _
        rw [this.2.1]; simp
      · show (unmark (h.setIfInBounds r (.deferred none)) (ls.map mkD))[b]? = _
        rw [this.2.2 b hb, Array.getElem?_setIfInBounds_ne (by omega)]
  have := key ls h hnd hls
  exact ⟨this.1, H _ this.2.1 this.2.2⟩
end loopd
end Go.Eng
end
section
namespace Go.Proofs.YtafemfjhflfdeaaDoor
open Go Go.Proofs Go.Eng Go.Run Tab
set_option maxRecDepth 100000
set_option linter.unusedSimpArgs false
set_option linter.unusedVariables false
set_option linter.defProp false
set_option maxHeartbeats 4000000
set_option linter.defProp false
def H24Fs33 := (And.intro (And.intro (And.intro (And.intro @agg22 @agg24) (And.intro @agg28 @agg3)) (And.intro (And.intro @by3 @fo24_0) (And.intro @inf22 @inf24))) (And.intro (And.intro (And.intro @inf28 @inf3) (And.intro @sz22 @sz24)) (And.intro (And.intro @sz28 @sz3) (And.intro @zero28 (And.intro @zero3 @Tryd.underlying22)))))
def H24Fs91 := (And.intro (And.intro (And.intro (And.intro @agg22 @agg3) (And.intro @agg79 @by3)) (And.intro (And.intro @fo112_0 @fo24_0) (And.intro @fo24_1 (And.intro @fps84_0 @fps84_1)))) (And.intro (And.intro (And.intro @inf22 @inf3) (And.intro @inf79 @okf84)) (And.intro (And.intro @sz22 @sz3) (And.intro @sz79 (And.intro @zero84 @Tryd.underlying22)))))
def stepsX (m : MV) (i : Nat) : List (List Value) := [.int .i64 (m.ov.w i : Int), .int .i64 0] :: if m.ov.can (i, i) then [[.int .i64 (m.ov.c i : Int), .int .i64 1]] else []
theorem steps70 (b : Nat) (i : Int) (h : Eng.Heap) : CallsH Tryd.prog 70 #[.pointer (some ⟨b, 0, none⟩), .int .i64 i] h (fun v h' => v = .func (.func 91) #[] #[.pointer (some ⟨h.size, 0, none⟩), .pointer (some ⟨h.size + 1, 0, none⟩)] ∧ h' = (h.push (.cells #[.pointer (some ⟨b, 0, none⟩)] 79)).push (.cells #[.int .i64 i] 3)) := by
  (refine CallsH_of_exec Tryd.func70 rfl bod70 ?_; simp only [Tryd.ntmps70, Tryd.results70, coreS, stK_some, splice, Value.cells, Value.oneCell', Nat.reduceAdd, Nat.reduceSub, Nat.reduceMul, Nat.reduceLeDiff, Int.reduceEq, Nat.reduceEqDiff])
theorem steps91 (m : MV) (gd : m.Good) (i : Nat) (hi : i < m.casts.length) (lo b1 b2 b : Nat) (h : Eng.Heap) (J : Nat → Eng.Heap → Prop) (E : Eng.Heap → Prop)
    (hF : ∀ k h', J k h' → m.ok h' ∧ Oven h' b m ∧ h'[b1]? = some (.cells #[.pointer (some ⟨b, 0, none⟩)] 79) ∧ h'[b2]? = some (.cells #[.int .i64 (i : Int)] 3))
    (hX : ∀ i h1 h2, J i h1 → Ext h1 h2 → J i h2) (h0 : J 0 h)
    (step : ∀ k h' vs, (stepsX m i)[k]? = some vs → J k h' → CallY Tryd.prog (.func (.yield lo) #[] #[]) vs h' (fun v h'' => (v = .bool true ∧ J (k + 1) h'') ∨ (v = .bool false ∧ E h''))) :
    CallsH Tryd.prog 91 (#[] ++ #[.func (.yield lo) #[] #[]] ++ #[.pointer (some ⟨b1, 0, none⟩), .pointer (some ⟨b2, 0, none⟩)]) h (fun _ h' => J (stepsX m i).length h' ∨ E h') := by
  simp only [Array.append_empty, Array.empty_append, List.append_toArray, List.cons_append, List.nil_append]
  obtain ⟨hm, ho, k1, k2⟩ := hF 0 h h0
  have ho' : h[b]? = some (.cells #[.slice m.a m.casts.length m.ca, .slice m.b m.waits.length m.cb, .int .i64 m.lo, .int .i64 m.hi] 112) := ho
  have hw := hm.w.cell (j := i) (by rw [gd.wl]; exact hi)
  rw [gd.w i hi] at hw
  have sm := hm.w.isSome (show 0 < m.waits.length by rw [gd.wl]; omega)
  have wl := gd.wl
  (refine CallsH_of_exec Tryd.func91 rfl bod91 ?_; simp only [Tryd.ntmps91, Tryd.results91, coreS, stK_some, splice, Value.cells, Value.oneCell', Nat.reduceAdd, Nat.reduceSub, Nat.reduceMul, Nat.reduceLeDiff, Int.reduceEq, Nat.reduceEqDiff, H24Fs91])
  refine WP_draw (by kernel_rfl) sta_eq [(0, 0), (1, 0), (2, 0), (3, 0), (4, 0), (5, 0), (6, 0), (7, 0), (8, 0), (9, 1), (10, 0)] (by kernel_rfl) rfl (by kernel_rfl) ?_
  simp only [k1, k2, ho', hw, Int.toNat_natCast, hvK_eq, coreS, Value.cells, Value.oneCell', Nat.reduceAdd, Nat.reduceSub, Nat.reduceMul, Nat.reduceLeDiff, Int.reduceEq, Nat.reduceEqDiff, drawS, H24Fs91]
  refine ⟨⟨by omega, by omega⟩, sm, ?_⟩
  rw [callV_yield]
  refine CallY.run (step 0 h _ rfl h0) rfl (by simp [k1, k2, ho', hw]; exact ⟨rfl, rfl⟩) ?_
  rintro v h2 (⟨rfl, hJ⟩ | ⟨rfl, hE⟩)
  · obtain ⟨hm2, ho2, q1, q2⟩ := hF 1 h2 hJ
    have ho2' : h2[b]? = some (.cells #[.slice m.a m.casts.length m.ca, .slice m.b m.waits.length m.cb, .int .i64 m.lo, .int .i64 m.hi] 112) := ho2
    simp only [q1, q2, Bool.not_true, hvK_eq, splice, coreS, Value.cells, Value.oneCell', Nat.reduceAdd, Nat.reduceSub, Nat.reduceMul, Nat.reduceLeDiff, Int.reduceEq, Nat.reduceEqDiff, drawS, H24Fs91]
    refine CallsH.mono (possible81 m b (i, i) h2 gd ho2) ?_
    rintro v h3 ⟨rfl, x3⟩
    have hJ3 := hX _ _ _ hJ x3
    cases hc : m.ov.can (i, i) with
    | false =>
      simp only [coreS, Value.cells, Value.oneCell', Nat.reduceAdd, Nat.reduceSub, Nat.reduceMul, Nat.reduceLeDiff, Int.reduceEq, Nat.reduceEqDiff, drawS, H24Fs91]
      have e1 : (stepsX m i).length = 1 := by simp [stepsX, hc]
      rw [e1]
      exact .inl hJ3
    | true =>
      obtain ⟨hm3, ho3, r1, r2⟩ := hF 1 h3 hJ3
      have ho3' : h3[b]? = some (.cells #[.slice m.a m.casts.length m.ca, .slice m.b m.waits.length m.cb, .int .i64 m.lo, .int .i64 m.hi] 112) := ho3
      have hcc := hm3.c.cell (j := i) hi
      rw [gd.c i hi] at hcc
      have sc := hm3.c.isSome (show 0 < m.casts.length by omega)
      have e1 : (stepsX m i).length = 2 := by simp [stepsX, hc]
      rw [e1]
      simp only [coreS, Value.cells, Value.oneCell', Nat.reduceAdd, Nat.reduceSub, Nat.reduceMul, Nat.reduceLeDiff, Int.reduceEq, Nat.reduceEqDiff, drawS, H24Fs91]
      refine WP_draw (by kernel_rfl) sta_eq [(0, 0), (1, 0), (2, 0), (3, 0), (4, 0), (5, 0), (6, 0), (7, 0), (8, 0), (9, 1)] (by kernel_rfl) rfl (by kernel_rfl) ?_
      simp only [r1, r2, ho3', hcc, Int.toNat_natCast, hvK_eq, coreS, Value.cells, Value.oneCell', Nat.reduceAdd, Nat.reduceSub, Nat.reduceMul, Nat.reduceLeDiff, Int.reduceEq, Nat.reduceEqDiff, drawS, H24Fs91]
      refine ⟨⟨by omega, by omega⟩, sc, ?_⟩
      rw [callV_yield]
      refine CallY.run (step 1 h3 [.int .i64 (m.ov.c i : Int), .int .i64 1] (by simp [stepsX, hc]) hJ3) rfl (by simp [r1, r2, ho3', hcc]; exact ⟨rfl, rfl⟩) ?_
      rintro v h4 (⟨rfl, hJ4⟩ | ⟨rfl, hE⟩)
      · simp only [hvK_eq, coreS, Value.cells, Value.oneCell', Nat.reduceAdd, Nat.reduceSub, Nat.reduceMul, Nat.reduceLeDiff, Int.reduceEq, Nat.reduceEqDiff, drawS, H24Fs91]
        exact .inl hJ4
      · simp only [hvK_eq, coreS, Value.cells, Value.oneCell', Nat.reduceAdd, Nat.reduceSub, Nat.reduceMul, Nat.reduceLeDiff, Int.reduceEq, Nat.reduceEqDiff, drawS, H24Fs91]
        exact .inr hE
  · simp only [Bool.not_false, hvK_eq, coreS, Value.cells, Value.oneCell', Nat.reduceAdd, Nat.reduceSub, Nat.reduceMul, Nat.reduceLeDiff, Int.reduceEq, Nat.reduceEqDiff, drawS, H24Fs91]
    exact .inr hE
theorem steps_seq (m : MV) (gd : m.Good) (i : Nat) (hi : i < m.casts.length) (b1 b2 b : Nat) :
    SeqOfE Tryd.prog (.func (.func 91) #[] #[.pointer (some ⟨b1, 0, none⟩), .pointer (some ⟨b2, 0, none⟩)]) (fun h' => m.ok h' ∧ Oven h' b m ∧ h'[b1]? = some (.cells #[.pointer (some ⟨b, 0, none⟩)] 79) ∧ h'[b2]? = some (.cells #[.int .i64 (i : Int)] 3)) (stepsX m i) :=
  ⟨91, _, _, rfl, fun lo h0 J E hx hX hJ step => steps91 m gd i hi lo b1 b2 b h0 J E hx hX hJ step⟩
theorem stepsX_get {m : MV} (gd : m.Good) {i k : Nat} (hi : i < m.casts.length) {vs : List Value} (h : (stepsX m i)[k]? = some vs) : ∃ to cs : Nat, vs = [.int .i64 (to : Int), .int .i64 (cs : Int)] ∧ to < m.casts.length ∧ ((k = 0 ∧ to = m.ov.w i ∧ cs = 0) ∨ (k = 1 ∧ m.ov.can (i, i) = true ∧ to = m.ov.c i ∧ cs = 1)) := by
  unfold stepsX at h
  have hw : m.ov.w i < m.casts.length := by have := gd.ok.wg i hi; omega
  have hc : m.ov.c i < m.casts.length := gd.ok.cl i hi
  rcases k with _ | _ | k
  · cases h; exact ⟨_, 0, rfl, hw, .inl ⟨rfl, rfl, rfl⟩⟩
  · cases hcan : m.ov.can (i, i) with
    | true => rw [hcan] at h; cases h; exact ⟨_, 1, rfl, hc, .inr ⟨rfl, rfl, rfl, rfl⟩⟩
    | false => rw [hcan] at h; cases h
  · cases hcan : m.ov.can (i, i) <;> rw [hcan] at h <;> cases h
theorem stepsX_length (m : MV) (i : Nat) : (stepsX m i).length = 1 + if m.ov.can (i, i) then 1 else 0 := by unfold stepsX; split <;> rfl
def stepB (L : List Int) (i to cs : Nat) : Prop := 0 ≤ L.getD i 0 ∧ ¬ (0 ≤ L.getD to 0 ∧ L.getD to 0 ≤ L.getD i 0 - cs)
theorem badL_iff (m : MV) (L : List Int) (i : Nat) : badL m L i ↔ stepB L i (m.ov.w i) 0 ∨ (m.ov.can (i, i) = true ∧ stepB L i (m.ov.c i) 1) := by
  unfold badL stepB
  constructor
  · rintro ⟨h1, h2 | ⟨h3, h4⟩⟩
    · exact .inl ⟨h1, by omega⟩
    · exact .inr ⟨h3, h1, by omega⟩
  · rintro (⟨h1, h2⟩ | ⟨h3, h1, h2⟩)
    · exact ⟨h1, .inl (by omega)⟩
    · exact ⟨h1, .inr ⟨h3, by omega⟩⟩
theorem ckl33 (m : MV) (a : Option Addr) (n c : Nat) (L : List Int) (h : Eng.Heap) (hm : m.ok h) (hv : IntsV h a n L) (hl : n ≤ 1000000) :
    CallsH Tryd.prog 33 #[m.val, .slice a n c] h (fun v h' => v = .int .i64 (cklE m L) ∧ Ext h h') := by
  have hcl := hm.cl
  have hln := hv.len
  have key : ∀ {p : Int} {q : Prop}, cklE m L = p → q → Value.int .i64 p = Value.int .i64 (cklE m L) ∧ q := fun h hq => ⟨by rw [h], hq⟩
  (refine CallsH_of_exec Tryd.func33 rfl bod33 ?_; simp only [Tryd.ntmps33, Tryd.results33, coreS, stK_some, splice, Value.cells, Value.oneCell', Nat.reduceAdd, Nat.reduceSub, Nat.reduceMul, Nat.reduceLeDiff, Int.reduceEq, Nat.reduceEqDiff, H24Fs33])
  simp only [show ¬ (h.size = h.size + 1 + 1) by omega, if_false, coreS, Value.cells, Value.oneCell', Nat.reduceAdd, Nat.reduceSub, Nat.reduceMul, Nat.reduceLeDiff, Int.reduceEq, Nat.reduceEqDiff, H24Fs33]
  have x0 : Ext h (((h.push (.cells #[.slice m.a m.casts.length m.ca, .slice m.b m.waits.length m.cb, .int .i64 m.lo, .int .i64 m.hi] 24)).push (.cells #[.slice a n c] 22)).push (.cells #[.int .i64 0] 28)) := (((Ext.refl h).push _).push _).push _
  refine CallsH.mono (open56 m none 0 0 [] _ (hm.ext x0) (IntsV.nil _) (by omega)) ?_
  rintro v h1 ⟨x1, h1'⟩
  have y1 := x0.trans x1
  have b0 := x1.get (push_old (push_old (push_new (h := h))))
  have b1 := x1.get (push_old (pn1 (h := h)))
  have b2 : h1[h.size + 2]? = some (.cells #[.int .i64 0] 28) := x1.get (by rw [Array.getElem?_push, if_pos (by simp)])
  have hs1 := lt_of_get b2
  have eO : opn m [] = chk m := by
    unfold opn
    split
    · rfl
    · rename_i h1; rw [Classical.not_not.1 h1]; rfl
  rw [eO] at h1'
  rcases h1' with ⟨e0, b, rfl, ho, hbs⟩ | ⟨e0, rfl⟩
  · have hp := chk_pos e0
    have gd := good_of e0
    have hv1 := hv.ext y1
    have hm1 := hm.ext y1
    simp only [Array.size_push] at hbs
    by_cases hnn : n = m.casts.length
    case neg =>
      have hnn2 : ¬ (n : Int) = (m.casts.length : Int) := by omega
      simp only [e0, b0, b1, b2, hnn2, decide_true, decide_false, Bool.not_true, Bool.not_false, splice, coreS, Value.cells, Value.oneCell', Nat.reduceAdd, Nat.reduceSub, Nat.reduceMul, Nat.reduceLeDiff, Int.reduceEq, Nat.reduceEqDiff, H24Fs33]
      refine stK_abs b2 (by simp) fun h3 g3 u3 => ?_
      simp only [splice] at g3
      simp only [g3, splice, coreS, Value.cells, Value.oneCell', Nat.reduceAdd, Nat.reduceSub, Nat.reduceMul, Nat.reduceLeDiff, Int.reduceEq, Nat.reduceEqDiff, H24Fs33]
      exact key (by unfold cklE; rw [if_neg (by omega), if_pos (by omega)]) (u3.ext y1 (by omega))
    have hnn2 : (n : Int) = (m.casts.length : Int) := by omega
    simp only [e0, b0, b1, b2, hnn2, decide_true, decide_false, Bool.not_true, Bool.not_false, splice, coreS, Value.cells, Value.oneCell', Nat.reduceAdd, Nat.reduceSub, Nat.reduceMul, Nat.reduceLeDiff, Int.reduceEq, Nat.reduceEqDiff, H24Fs33]
    refine CallsH.mono (within62 (-1) 30 a n c L h1 hv1 hl) ?_
    rintro v hB ⟨rfl, xB⟩
    have yB := y1.trans xB
    have c0 := xB.get b0
    have c1 := xB.get b1
    have c2 := xB.get b2
    have cO : hB[b]? = some (.cells #[.slice m.a m.casts.length m.ca, .slice m.b m.waits.length m.cb, .int .i64 m.lo, .int .i64 m.hi] 112) := xB.get ho
    have hsB := xB.size
    cases hin3 : inB (-1) 30 L with
    | false =>
      simp only [c2, Bool.not_false, splice, coreS, Value.cells, Value.oneCell', Nat.reduceAdd, Nat.reduceSub, Nat.reduceMul, Nat.reduceLeDiff, Int.reduceEq, Nat.reduceEqDiff, H24Fs33]
      refine stK_abs c2 (by simp) fun h3 g3 u3 => ?_
      simp only [splice] at g3
      simp only [g3, splice, coreS, Value.cells, Value.oneCell', Nat.reduceAdd, Nat.reduceSub, Nat.reduceMul, Nat.reduceLeDiff, Int.reduceEq, Nat.reduceEqDiff, H24Fs33]
      exact key (by unfold cklE; rw [if_neg (by omega), if_neg (by omega), if_pos hin3]) (u3.ext yB (by omega))
    | true =>
      have eE : cklE m L = if ∃ i < m.casts.length, badL m L i then 14 else 0 := by unfold cklE; rw [if_neg (by omega), if_neg (by omega), if_neg (by simp [hin3])]
      simp only [c1, Bool.not_true, splice, coreS, Value.cells, Value.oneCell', Nat.reduceAdd, Nat.reduceSub, Nat.reduceMul, Nat.reduceLeDiff, Int.reduceEq, Nat.reduceEqDiff, H24Fs33]
      refine WP_loopD [7, 8, 9, 10, 33, 34, 35, 36, 37, 38, 39, 40, 43, 44, 45, 46, 47, 48, 49, 50, 51, 52, 53, 54, 55, 56, 57] (fun g d h' => Ext hB h' ∧ Marks hB.size h'.size h' d ∧ ∃ i : Nat, i ≤ n ∧ g 33 = .int .i64 i ∧ ∀ j < i, ¬ badL m L j) (fun g _ => match g 33 with | .int _ q => n - q.toNat | _ => 0) ⟨Ext.refl _, Marks.nil _ _ _, 0, by omega, rfl, fun j hj => by omega⟩ ?_
      rintro g dC hC ⟨xC, mC, i, hin, hg, hno⟩
      have yC := yB.trans xC
      have vC := hv.ext yC
      by_cases hi : i < n
      · have hlt : (i : Int) < n := by omega
        have hi2 : i < m.casts.length := by omega
        have s1 := vC.isSome (show 0 < L.length by omega)
        have k1 := vC.cell (j := i) (by omega)
        simp only [hg, hlt, k1, Int.toNat_natCast, decide_true, splice, coreS, Value.cells, Value.oneCell', Nat.reduceAdd, Nat.reduceSub, Nat.reduceMul, Nat.reduceLeDiff, Int.reduceEq, Nat.reduceEqDiff, H24Fs33]
        repeat (refine And.intro (by first | omega | (rw [inK_i64]; omega) | rfl | assumption | (exact s1)) ?_)
        refine stK_abs (push_new (h := hC)) (by simp) fun h3 g3 u3 => ?_
        simp only [splice] at g3
        have y3 : Ext hB h3 := u3.ext (xC.push _) (by have := xC.size; omega)
        have hs3 : h3.size = hC.size + 1 := by rw [u3.size]; simp
        simp only [coreS, Value.cells, Value.oneCell', Nat.reduceAdd, Nat.reduceSub, Nat.reduceMul, Nat.reduceLeDiff, Int.reduceEq, Nat.reduceEqDiff, H24Fs33]
        refine CallsH.mono (steps70 b i h3) ?_
        rintro v h4 ⟨rfl, hh4⟩
        have f0 : h4[hC.size]? = some (.cells #[.int .i64 (L.getD i 0)] 3) := by rw [hh4]; exact push_old (push_old g3)
        have f1 : h4[hC.size + 1]? = some (.cells #[.pointer (some ⟨b, 0, none⟩)] 79) := by rw [hh4, ← hs3]; exact pn0
        have f2 : h4[hC.size + 2]? = some (.cells #[.int .i64 (i : Int)] 3) := by rw [hh4]; have := pn1 (h := h3) (o := .cells #[.pointer (some ⟨b, 0, none⟩)] 79) (o' := .cells #[.int .i64 (i : Int)] 3); rwa [hs3] at this
        have x4 : Ext hB h4 := by rw [hh4]; exact (y3.push _).push _
        have s4 : h4.size = hC.size + 3 := by rw [hh4]; simp; omega
        have hsC := xC.size
        have hs2 := lt_of_get c2
        have xs4 : Ext h3 h4 := by rw [hh4]; exact ((Ext.refl h3).push _).push _
        clear hh4 g3
        simp only [hs3, coreS, Value.cells, Value.oneCell', Nat.reduceAdd, Nat.reduceSub, Nat.reduceMul, Nat.reduceLeDiff, Int.reduceEq, Nat.reduceEqDiff, H24Fs33]
        refine WP_rangeE (xss := stepsX m i) rfl (steps_seq m gd i hi2 (hC.size + 1) (hC.size + 1 + 1) b) (fun k h' => Ext hB h' ∧ h'[hC.size]? = some (.cells #[.int .i64 (L.getD i 0)] 3) ∧ h'[hC.size + 1]? = some (.cells #[.pointer (some ⟨b, 0, none⟩)] 79) ∧ h'[hC.size + 2]? = some (.cells #[.int .i64 (i : Int)] 3) ∧ h'[hC.size + 3]? = some (.deferred (some [])) ∧ hC.size + 5 ≤ h'.size ∧ Marks hB.size hC.size h' dC ∧ ∀ j, j < k → ∀ to cs : Nat, (stepsX m i)[j]? = some [.int .i64 (to : Int), .int .i64 (cs : Int)] → ¬ stepB L i to cs) (fun j h' => j = .ret ∧ h'[h.size + 2]? = some (.cells #[.int .i64 14] 28) ∧ Ext h h' ∧ h'[hC.size + 3]? = some (.deferred (some [])) ∧ Marks hB.size hC.size h' dC ∧ hB.size ≤ h'.size ∧ badL m L i) ?_ ?_ ?_ ?_ ?_ ?_ ?_ ?_ ?_
        · intro vs hvs
          obtain ⟨k, hk⟩ := List.getElem?_of_mem hvs
          obtain ⟨to, cs, rfl, _⟩ := stepsX_get gd hi2 hk
          rfl
        · rintro k h' ⟨z0, z1, z2, z3, z4, z5, zM, z6⟩
          exact ⟨hm.ext (yB.trans z0), z0.get cO, z2, z3⟩
        · rintro k h5 h6 ⟨z0, z1, z2, z3, z4, z5, zM, z6⟩ x
          exact ⟨z0.trans x, x.get z1, x.get z2, x.get z3, x.get z4, Nat.le_trans z5 x.size, zM.ext x, z6⟩
        · rintro k h5 h6 ⟨z0, z1, z2, z3, z4, z5, zM, z6⟩ u
          rw [s4] at u
          exact ⟨u.ext z0 (by omega), u.get z1 (by omega), u.get z2 (by omega), u.get z3 (by omega), u.get z4 (by omega), by rw [u.size]; exact z5, zM.upd u (by omega), z6⟩
        · rintro j h5 h6 ⟨rfl, z1, z2, z3, zM, zS, z4⟩ u
          rw [s4] at u
          exact ⟨rfl, u.get z1 (by omega), u.ext z2 (by have := yB.size; omega), u.get z3 (by omega), zM.upd u (by omega), by rw [u.size]; exact zS, z4⟩
        · intro h' x z1 z2
          rw [s4] at z1 z2
          exact ⟨x4.trans x, x.get f0, x.get f1, x.get f2, z1, by omega, ((mC.ext (u3.ext ((Ext.refl hC).push _) (Nat.le_refl _))).ext xs4).ext x, fun j hj => by omega⟩
        · rintro k h5 vs o hvs ⟨z0, z1, z2, z3, z4, z5, zM, z6⟩ ho
          rw [s4] at ho ⊢
          obtain ⟨to, cs, rfl, hto, hcase⟩ := stepsX_get gd hi2 hvs
          simp only [asgI_normal, stK_some, splice, coreS, Value.cells, Value.oneCell', Nat.reduceAdd, Nat.reduceSub, Nat.reduceMul, Nat.reduceLeDiff, Int.reduceEq, Nat.reduceEqDiff, scopeK_normal, scopeK_ret, scopeK_exit, callV_yield, binds_cons, binds_nil, H24Fs33]
          refine ⟨ho, fun h6 o2 u6 ho2 => ?_⟩
          have q1 := u6.get z1 (by omega)
          have qx := u6.ext z0 (by omega)
          have qM := zM.upd u6 (by omega)
          have q2 := u6.get z2 (by omega)
          have q3 := u6.get z3 (by omega)
          have q4 := u6.get z4 (by omega)
          have qs := u6.size
          have v6 := hv.ext (yB.trans qx)
          have kt := v6.cell (j := to) (by omega)
          have qc1 := qx.get c1
          have qc2 := qx.get c2
          have next : ¬ stepB L i to cs → ∀ j, j < k + 1 → ∀ to' cs' : Nat, (stepsX m i)[j]? = some [.int .i64 (to' : Int), .int .i64 (cs' : Int)] → ¬ stepB L i to' cs' := by
            intro hb j hj to' cs' hj2
            by_cases hjk : j = k
            · subst hjk
              rw [hvs] at hj2
              simp only [Option.some.injEq, List.cons.injEq, Value.int.injEq, true_and, and_true, Int.ofNat_inj] at hj2
              rw [← hj2.1, ← hj2.2]; exact hb
            · exact z6 j (by omega) to' cs' hj2
          have bad : stepB L i to cs → badL m L i := fun hb => by
            rw [badL_iff]
            rcases hcase with ⟨_, h1, h2⟩ | ⟨_, h0, h1, h2⟩
            · left; rw [← h1, ← h2]; exact hb
            · right; rw [← h1, ← h2]; exact ⟨h0, hb⟩
          by_cases p1 : 0 ≤ L.getD i 0
          case neg =>
            refine WP_tree (by kernel_rfl) sta_ext (.quiet 0 (.quiet 1 (.quiet 2 (.quiet 3 (.quiet 4 (.quiet 5 (.quiet 6 (.quiet 7 (.quiet 8 (.quiet 9 (.keep 10 (.keep 11 (.quiet 12 (.quiet 13 (.fin))))))))))))))) (by kernel_rfl) rfl (by kernel_rfl) ?_
            simp only [q1, p1, gd_none, gq_none, decide_true, decide_false, hvK_eq, endI_normal, treeS, coreS, Value.cells, Value.oneCell', Nat.reduceAdd, Nat.reduceSub, Nat.reduceMul, Nat.reduceLeDiff, Int.reduceEq, Nat.reduceEqDiff, scopeK_normal, scopeK_ret, scopeK_exit, callV_yield, binds_cons, binds_nil, drawS, H24Fs33]
            refine execT_keep fun h7 x7 => ?_
            simp only [q1, qc1, kt, p1, gd_none, gq_none, decide_true, decide_false, hvK_eq, endI_normal, treeS, coreS, Value.cells, Value.oneCell', Nat.reduceAdd, Nat.reduceSub, Nat.reduceMul, Nat.reduceLeDiff, Int.reduceEq, Nat.reduceEqDiff, scopeK_normal, scopeK_ret, scopeK_exit, callV_yield, binds_cons, binds_nil, drawS, H24Fs33]
            refine ⟨Ext.refl _, execT_keep fun h8 x8 => ?_⟩
            simp only [q1, qc1, kt, p1, gd_none, gq_none, decide_true, decide_false, hvK_eq, endI_normal, treeS, coreS, Value.cells, Value.oneCell', Nat.reduceAdd, Nat.reduceSub, Nat.reduceMul, Nat.reduceLeDiff, Int.reduceEq, Nat.reduceEqDiff, scopeK_normal, scopeK_ret, scopeK_exit, callV_yield, binds_cons, binds_nil, drawS, H24Fs33]
            refine ⟨Ext.refl _, ?_⟩
            refine execT_fin fun h9 x9 => ?_
            simp only [q1, qc1, kt, p1, gd_none, gq_none, decide_true, decide_false, hvK_eq, endI_normal, treeS, coreS, Value.cells, Value.oneCell', Nat.reduceAdd, Nat.reduceSub, Nat.reduceMul, Nat.reduceLeDiff, Int.reduceEq, Nat.reduceEqDiff, scopeK_normal, scopeK_ret, scopeK_exit, callV_yield, binds_cons, binds_nil, drawS, H24Fs33]
            have xx := x7.trans (x8.trans x9)
            exact ⟨xx.get ho2, qx.trans xx, xx.get q1, xx.get q2, xx.get q3, xx.get q4, by have := xx.size; omega, qM.ext xx, next fun hb => p1 hb.1⟩
          case pos =>
            refine WP_tree (by kernel_rfl) sta_ext (.quiet 0 (.quiet 1 (.quiet 2 (.quiet 3 (.quiet 4 (.quiet 5 (.quiet 6 (.quiet 7 (.quiet 8 (.quiet 9 (.keep 10 (.keep 11 (.quiet 12 (.quiet 13 (.fin))))))))))))))) (by kernel_rfl) rfl (by kernel_rfl) ?_
            simp only [q1, qc1, kt, p1, gd_none, gq_none, Int.toNat_natCast, decide_true, decide_false, hvK_eq, endI_normal, treeS, coreS, Value.cells, Value.oneCell', Nat.reduceAdd, Nat.reduceSub, Nat.reduceMul, Nat.reduceLeDiff, Int.reduceEq, Nat.reduceEqDiff, scopeK_normal, scopeK_ret, scopeK_exit, callV_yield, binds_cons, binds_nil, drawS, H24Fs33]
            have hib := inB_at hin3 (i := i) (by omega)
            have hcs : cs ≤ 1 := by rcases hcase with ⟨_, _, h⟩ | ⟨_, _, _, h⟩ <;> omega
            refine ⟨by rw [inK_i64]; omega, ⟨by omega, by omega⟩, vC.isSome (by omega), ?_⟩
            refine execT_keep fun h7 x7 => ?_
            simp only [q1, qc1, kt, p1, gd_none, gq_none, decide_true, decide_false, hvK_eq, endI_normal, treeS, coreS, Value.cells, Value.oneCell', Nat.reduceAdd, Nat.reduceSub, Nat.reduceMul, Nat.reduceLeDiff, Int.reduceEq, Nat.reduceEqDiff, scopeK_normal, scopeK_ret, scopeK_exit, callV_yield, binds_cons, binds_nil, drawS, H24Fs33]
            refine ⟨(Ext.refl _).push _, execT_keep fun h8 x8 => ?_⟩
            simp only [q1, qc1, kt, p1, gd_none, gq_none, decide_true, decide_false, hvK_eq, endI_normal, treeS, coreS, Value.cells, Value.oneCell', Nat.reduceAdd, Nat.reduceSub, Nat.reduceMul, Nat.reduceLeDiff, Int.reduceEq, Nat.reduceEqDiff, scopeK_normal, scopeK_ret, scopeK_exit, callV_yield, binds_cons, binds_nil, drawS, H24Fs33]
            refine CallsH.mono (within62 0 _ _ 1 1 [L.getD to 0] h8 (intsV_one (x8.get push_new)) (by omega)) ?_
            rintro v h10 ⟨rfl, x10⟩
            refine ⟨x10, ?_⟩
            rw [inB_one]
            by_cases p2 : 0 ≤ L.getD to 0 ∧ L.getD to 0 ≤ L.getD i 0 - cs
            · simp only [q1, qc1, kt, p1, p2, gd_none, gq_none, decide_true, decide_false, hvK_eq, endI_normal, treeS, coreS, Value.cells, Value.oneCell', Nat.reduceAdd, Nat.reduceSub, Nat.reduceMul, Nat.reduceLeDiff, Int.reduceEq, Nat.reduceEqDiff, scopeK_normal, scopeK_ret, scopeK_exit, callV_yield, binds_cons, binds_nil, drawS, H24Fs33]
              refine execT_fin fun h11 x11 => ?_
              simp only [q1, qc1, kt, p1, gd_none, gq_none, decide_true, decide_false, hvK_eq, endI_normal, treeS, coreS, Value.cells, Value.oneCell', Nat.reduceAdd, Nat.reduceSub, Nat.reduceMul, Nat.reduceLeDiff, Int.reduceEq, Nat.reduceEqDiff, scopeK_normal, scopeK_ret, scopeK_exit, callV_yield, binds_cons, binds_nil, drawS, H24Fs33]
              have xx := x7.trans (((Ext.refl h7).push (.cells #[.int .i64 (L.getD to 0)] 3)).trans (x8.trans (x10.trans x11)))
              exact ⟨xx.get ho2, qx.trans xx, xx.get q1, xx.get q2, xx.get q3, xx.get q4, by have := xx.size; omega, qM.ext xx, next fun hb => hb.2 p2⟩
            · simp only [q1, qc1, kt, p1, p2, gd_none, gq_none, decide_true, decide_false, hvK_eq, endI_normal, treeS, coreS, Value.cells, Value.oneCell', Nat.reduceAdd, Nat.reduceSub, Nat.reduceMul, Nat.reduceLeDiff, Int.reduceEq, Nat.reduceEqDiff, scopeK_normal, scopeK_ret, scopeK_exit, callV_yield, binds_cons, binds_nil, drawS, H24Fs33]
              refine execT_fin fun h11 x11 => ?_
              have xx := x7.trans (((Ext.refl h7).push (.cells #[.int .i64 (L.getD to 0)] 3)).trans (x8.trans (x10.trans x11)))
              simp only [xx.get qc2, endI_ret, splice, coreS, Value.cells, Value.oneCell', Nat.reduceAdd, Nat.reduceSub, Nat.reduceMul, Nat.reduceLeDiff, Int.reduceEq, Nat.reduceEqDiff, scopeK_normal, scopeK_ret, scopeK_exit, callV_yield, binds_cons, binds_nil, drawS, H24Fs33]
              refine stK_abs (xx.get qc2) (by simp) fun h12 g12 u12 => ?_
              simp only [splice] at g12
              simp only [splice, endI_ret, coreS, Value.cells, Value.oneCell', Nat.reduceAdd, Nat.reduceSub, Nat.reduceMul, Nat.reduceLeDiff, Int.reduceEq, Nat.reduceEqDiff, scopeK_normal, scopeK_ret, scopeK_exit, callV_yield, binds_cons, binds_nil, drawS, H24Fs33]
              have hx2 := (qx.trans xx).size
              exact ⟨u12.get (xx.get ho2) (by omega), g12, u12.ext (yB.trans (qx.trans xx)) (by omega), u12.get (xx.get q4) (by omega), (qM.ext xx).upd u12 (by omega), by rw [u12.size]; exact hx2, bad ⟨p1, p2⟩⟩
        · rintro h5 ⟨z0, z1, z2, z3, z4, z5, zM, z6⟩
          rw [s4]
          simp only [coreS, Value.cells, Value.oneCell', Nat.reduceAdd, Nat.reduceSub, Nat.reduceMul, Nat.reduceLeDiff, Int.reduceEq, Nat.reduceEqDiff, scopeK_normal, scopeK_ret, scopeK_exit, callV_yield, binds_cons, binds_nil, H24Fs33]
          refine ⟨by rw [inK_i64]; omega, roundD_mk (by kernel_rfl) ⟨z0, ?_, i + 1, by omega, rfl, fun j hj => ?_⟩ ?_⟩
          · exact zM.cons z4 (by omega) (by omega) (by omega)
          · by_cases hji : j = i
            · subst hji
              rw [badL_iff, stepsX_length] at *
              rintro (hb | ⟨hc, hb⟩)
              · exact z6 0 (by omega) _ 0 rfl hb
              · exact z6 1 (by rw [hc]; decide) _ 1 (by simp [stepsX, hc]) hb
            · exact hno j (by omega)
          · show n - ((i : Int) + 1).toNat < n - (i : Int).toNat
            omega
        · rintro j h5 ⟨rfl, z1, z2, z3, zM, zS, z4⟩
          rw [s4]
          simp only [z1, coreS, Value.cells, Value.oneCell', Nat.reduceAdd, Nat.reduceSub, Nat.reduceMul, Nat.reduceLeDiff, Int.reduceEq, Nat.reduceEqDiff, scopeK_normal, scopeK_ret, scopeK_exit, callV_yield, binds_cons, binds_nil, H24Fs33]
          refine fin_marks (m0 := hB.size) (m1 := hC.size + 4) (zM.cons z3 (by omega) (by omega) (by omega)) fun h9 hs9 hk9 => ?_
          have r9 : h9[h.size + 2]? = some (.cells #[.int .i64 14] 28) := by rw [hk9 _ (by omega)]; exact z1
          simp only [r9, coreS, Value.cells, Value.oneCell', Nat.reduceAdd, Nat.reduceSub, Nat.reduceMul, Nat.reduceLeDiff, Int.reduceEq, Nat.reduceEqDiff, scopeK_normal, scopeK_ret, scopeK_exit, callV_yield, binds_cons, binds_nil, H24Fs33]
          refine key (by rw [eE, if_pos ⟨i, hi2, z4⟩]) ⟨by rw [hs9]; exact z2.size, fun b hb => ?_⟩
          rw [hk9 b (by have := yB.size; omega)]
          exact z2.old b hb
      · obtain rfl : i = n := by omega
        have hlt : ¬ (i : Int) < i := by omega
        simp only [hg, hlt, xC.get c2, decide_false, splice, coreS, Value.cells, Value.oneCell', Nat.reduceAdd, Nat.reduceSub, Nat.reduceMul, Nat.reduceLeDiff, Int.reduceEq, Nat.reduceEqDiff, H24Fs33]
        refine stK_abs (xC.get c2) (by simp) fun h3 g3 u3 => ?_
        simp only [splice] at g3
        simp only [g3, splice, coreS, Value.cells, Value.oneCell', Nat.reduceAdd, Nat.reduceSub, Nat.reduceMul, Nat.reduceLeDiff, Int.reduceEq, Nat.reduceEqDiff, H24Fs33]
        refine fin_marks (mC.upd u3 (by omega)) fun h9 hs9 hk9 => ?_
        have r9 : h9[h.size + 2]? = some (.cells #[.int .i64 0] 28) := by rw [hk9 _ (by omega)]; exact g3
        have yy := u3.ext yC (by omega)
        simp only [r9, coreS, Value.cells, Value.oneCell', Nat.reduceAdd, Nat.reduceSub, Nat.reduceMul, Nat.reduceLeDiff, Int.reduceEq, Nat.reduceEqDiff, H24Fs33]
        refine key ?_ ⟨by rw [hs9]; exact yy.size, fun b hb => by rw [hk9 b (by have := yB.size; omega)]; exact yy.old b hb⟩
        rw [eE, if_neg]
        rintro ⟨j, hj, hb⟩
        exact hno j (by omega) hb
  · simp only [e0, b2, decide_false, Bool.not_false, splice, coreS, Value.cells, Value.oneCell', Nat.reduceAdd, Nat.reduceSub, Nat.reduceMul, Nat.reduceLeDiff, Int.reduceEq, Nat.reduceEqDiff, H24Fs33]
    refine stK_abs b2 (by simp) fun h3 g3 u3 => ?_
    simp only [splice] at g3
    simp only [g3, splice, coreS, Value.cells, Value.oneCell', Nat.reduceAdd, Nat.reduceSub, Nat.reduceMul, Nat.reduceLeDiff, Int.reduceEq, Nat.reduceEqDiff, H24Fs33]
    exact key (by unfold cklE; rw [if_pos e0]) (u3.ext y1 (by omega))
end Go.Proofs.YtafemfjhflfdeaaDoor
end
section
namespace Go.Proofs.YtafemfjhflfdeaaDoor
set_option linter.unusedSimpArgs false
set_option linter.unusedVariables false
namespace OV
variable {o : OV}
theorem run_same (ok : o.ok) {i : Nat} {p : List Bool} {t : Sp} (h : o.run (i, i) p = some t) : t = (t.1, t.1) := Prod.ext rfl (run_one i p t h).symm
theorem lw_bound (ok : o.ok) : ∀ (k i x : Nat), i < o.n → o.lw (k + 1) (i, i) = some x → x ≤ i + k * (o.n - 1) := by
  intro k
  induction k with
  | zero =>
    intro i
    induction i using Nat.strongRecOn with
    | _ i ih =>
      intro x hi hx
      rw [lw_succ ok ⟨hi, hi⟩] at hx
      by_cases hc : o.can (i, i) = true
      · rw [if_pos hc, lw_zero] at hx
        cases hb : (if o.W (i, i) = (i, i) then none else (o.lw (0 + 1) (o.W (i, i))).map (· + 1)) with
        | none => rw [hb] at hx; cases hx; omega
        | some y => rw [hb] at hx; simp only [better, Option.some.injEq] at hx; split at hx <;> omega
      · rw [if_neg hc] at hx
        simp only [better] at hx
        by_cases hw : o.W (i, i) = (i, i)
        · rw [if_pos hw] at hx; cases hx
        · rw [if_neg hw] at hx
          have hlt := W_lt ok ⟨hi, hi⟩ hw
          simp only [W] at hlt hx
          cases hy : o.lw (0 + 1) (o.w i, o.w i) with
          | none => rw [hy] at hx; cases hx
          | some y =>
            rw [hy] at hx
            simp only [Option.map_some, Option.some.injEq] at hx
            have := ih (o.w i) (by omega) y (by omega) hy
            omega
  | succ k ihk =>
    intro i
    induction i using Nat.strongRecOn with
    | _ i ih =>
      intro x hi hx
      rw [lw_succ ok ⟨hi, hi⟩] at hx
      have em : (k + 1) * (o.n - 1) = k * (o.n - 1) + (o.n - 1) := Nat.succ_mul _ _
      by_cases hc : o.can (i, i) = true ∧ (o.lw (k + 1) (o.C (i, i))).isSome = true
      · rw [if_pos hc.1] at hx
        obtain ⟨z, hz⟩ := Option.isSome_iff_exists.1 hc.2
        have hcl := ok.cl i hi
        have := ihk (o.c i) z hcl hz
        rw [hz] at hx
        cases hb : (if o.W (i, i) = (i, i) then none else (o.lw (k + 1 + 1) (o.W (i, i))).map (· + 1)) with
        | none => rw [hb] at hx; cases hx; omega
        | some y => rw [hb] at hx; simp only [better, Option.some.injEq] at hx; split at hx <;> omega
      · have hn : (if o.can (i, i) = true then o.lw (k + 1) (o.C (i, i)) else none) = none := by
          by_cases h1 : o.can (i, i) = true
          · rw [if_pos h1]
            cases h2 : o.lw (k + 1) (o.C (i, i)) with
            | none => rfl
            | some z => exact absurd ⟨h1, by rw [h2]; rfl⟩ hc
          · rw [if_neg h1]
        rw [hn] at hx
        simp only [better] at hx
        by_cases hw : o.W (i, i) = (i, i)
        · rw [if_pos hw] at hx; cases hx
        · rw [if_neg hw] at hx
          have hlt := W_lt ok ⟨hi, hi⟩ hw
          simp only [W] at hlt hx
          cases hy : o.lw (k + 1 + 1) (o.w i, o.w i) with
          | none => rw [hy] at hx; cases hx
          | some y =>
            rw [hy] at hx
            simp only [Option.map_some, Option.some.injEq] at hx
            have := ih (o.w i) (by omega) y (by omega) hy
            omega
end OV
end Go.Proofs.YtafemfjhflfdeaaDoor
end
section
namespace Go.Proofs.YtafemfjhflfdeaaDoor
set_option linter.unusedSimpArgs false
set_option linter.unusedVariables false
set_option linter.defProp false
namespace OV
variable {o : OV}
def far : Nat := 1048576
theorem far_eq : far = 1048576 := rfl
theorem getD_set' {v : List Nat} {i j x d : Nat} (hi : i < v.length) : (v.set i x).getD j d = if j = i then x else v.getD j d := by
  rw [List.getD_eq_getElem?_getD, List.getD_eq_getElem?_getD, List.getElem?_set]
  by_cases h : i = j
  · subst h; simp [hi]
  · rw [if_neg h, if_neg (fun hh => h hh.symm)]
def rel (o : OV) (v : List Nat) (i : Nat) : List Nat := v.set (o.w i) (min (v.getD (o.w i) 0) (v.getD i 0 + 1))
theorem rel_length (v : List Nat) (i : Nat) : (o.rel v i).length = v.length := by simp [rel]
theorem rel_at (ok : o.ok) {v : List Nat} (hv : v.length = o.n) {i : Nat} (hi : i < o.n) (j : Nat) : (o.rel v i).getD j 0 = if j = o.w i then min (v.getD (o.w i) 0) (v.getD i 0 + 1) else v.getD j 0 := by
  rw [rel, getD_set' (by have := ok.wg i hi; omega)]
theorem rel_le (ok : o.ok) {v : List Nat} (hv : v.length = o.n) {i : Nat} (hi : i < o.n) (j : Nat) : (o.rel v i).getD j 0 ≤ v.getD j 0 := by
  rw [rel_at ok hv hi]
  split
  · rename_i h; rw [h]; exact Nat.min_le_left _ _
  · exact Nat.le_refl _
theorem fold_length : ∀ (l : List Nat) (v : List Nat), (l.foldl o.rel v).length = v.length
  | [], v => rfl
  | i :: l, v => by rw [List.foldl_cons, fold_length l, rel_length]
theorem fold_le (ok : o.ok) : ∀ (l : List Nat) (v : List Nat), v.length = o.n → (∀ i ∈ l, i < o.n) → ∀ j, (l.foldl o.rel v).getD j 0 ≤ v.getD j 0
  | [], v, hv, hl, j => Nat.le_refl _
  | i :: l, v, hv, hl, j => by
    rw [List.foldl_cons]
    exact Nat.le_trans (fold_le ok l _ (by rw [rel_length, hv]) (fun x hx => hl x (List.mem_cons_of_mem _ hx)) j) (rel_le ok hv (hl i List.mem_cons_self) j)
def Cl (o : OV) (d : Nat → Nat) : Prop := ∀ i, i < o.n → d (o.w i) ≤ d i + 1
theorem fold_above (ok : o.ok) {d : Nat → Nat} (hd : o.Cl d) : ∀ (l : List Nat) (v : List Nat), v.length = o.n → (∀ i ∈ l, i < o.n) → (∀ j, j < o.n → d j ≤ v.getD j 0) → ∀ j, j < o.n → d j ≤ (l.foldl o.rel v).getD j 0
  | [], v, hv, hl, h, j, hj => h j hj
  | i :: l, v, hv, hl, h, j, hj => by
    rw [List.foldl_cons]
    have hi := hl i List.mem_cons_self
    refine fold_above ok hd l _ (by rw [rel_length, hv]) (fun x hx => hl x (List.mem_cons_of_mem _ hx)) (fun q hq => ?_) j hj
    rw [rel_at ok hv hi]
    split
    · rename_i he
      subst he
      have h1 := hd i hi
      have h2 := h i hi
      have h3 := h _ hq
      omega
    · exact h q hq
theorem fold_step (ok : o.ok) : ∀ (l : List Nat) (v : List Nat), v.length = o.n → (∀ i ∈ l, i < o.n) → ∀ i ∈ l, (l.foldl o.rel v).getD (o.w i) 0 ≤ v.getD i 0 + 1
  | [], v, hv, hl, i, hi => by cases hi
  | q :: l, v, hv, hl, i, hi => by
    rw [List.foldl_cons]
    have hq := hl q List.mem_cons_self
    have hl' : ∀ i ∈ l, i < o.n := fun x hx => hl x (List.mem_cons_of_mem _ hx)
    have e := fold_le ok l (o.rel v q) (by rw [rel_length, hv]) hl'
    rcases List.mem_cons.1 hi with rfl | hi
    · have := e (o.w i)
      rw [rel_at ok hv hq, if_pos rfl] at this
      omega
    · exact Nat.le_trans (fold_step ok l _ (by rw [rel_length, hv]) hl' i hi) (by have := rel_le ok hv hq i; omega)
structure IsC (o : OV) (v c : List Nat) : Prop where
  len : c.length = o.n
  le : ∀ j, j < o.n → c.getD j 0 ≤ v.getD j 0
  cl : o.Cl fun j => c.getD j 0
  top : ∀ d : Nat → Nat, o.Cl d → (∀ j, j < o.n → d j ≤ v.getD j 0) → ∀ j, j < o.n → d j ≤ c.getD j 0
theorem nat_ext {xs ys : List Nat} (hl : xs.length = ys.length) (H : ∀ i, i < xs.length → xs.getD i 0 = ys.getD i 0) : xs = ys := by
  apply List.ext_getElem hl
  intro i h1 h2
  have := H i h1
  simpa [List.getD, List.getElem?_eq_getElem h1, List.getElem?_eq_getElem h2] using this
theorem IsC.uniq {v c c' : List Nat} (h : o.IsC v c) (h' : o.IsC v c') : c = c' := by
  refine nat_ext (by rw [h.len, h'.len]) fun j hj => ?_
  rw [h.len] at hj
  exact Nat.le_antisymm (h'.top _ h.cl h.le j hj) (h.top _ h'.cl h'.le j hj)
def pass (o : OV) (v : List Nat) : List Nat := (List.range o.n).foldl o.rel v
theorem pass_le (ok : o.ok) {v : List Nat} (hv : v.length = o.n) (j : Nat) : (o.pass v).getD j 0 ≤ v.getD j 0 := fold_le ok _ v hv (fun i hi => List.mem_range.1 hi) j
theorem pass_cl (ok : o.ok) {v : List Nat} (hv : v.length = o.n) (hp : o.pass v = v) : o.Cl fun j => v.getD j 0 := fun i hi => by
  have := fold_step ok (List.range o.n) v hv (fun i hi => List.mem_range.1 hi) i (List.mem_range.2 hi)
  rw [show (List.range o.n).foldl o.rel v = v from hp] at this
  exact this
theorem sum_le : ∀ (xs ys : List Nat), xs.length = ys.length → (∀ j, j < xs.length → xs.getD j 0 ≤ ys.getD j 0) → xs.sum ≤ ys.sum ∧ (xs ≠ ys → xs.sum < ys.sum)
  | [], [], _, _ => ⟨Nat.le_refl _, fun h => absurd rfl h⟩
  | x :: xs, y :: ys, hl, H => by
    have h0 : x ≤ y := by simpa using H 0 (by simp)
    have ih := sum_le xs ys (by simpa using hl) fun j hj => by simpa using H (j + 1) (by simpa using hj)
    simp only [List.sum_cons]
    refine ⟨by omega, fun hne => ?_⟩
    by_cases h1 : x = y
    · have := ih.2 fun h2 => hne (by rw [h1, h2])
      omega
    · have := ih.1
      omega
theorem pass_fix (ok : o.ok) {v c : List Nat} (hc : c.length = o.n) (hle : ∀ j, j < o.n → c.getD j 0 ≤ v.getD j 0) (htop : ∀ d : Nat → Nat, o.Cl d → (∀ j, j < o.n → d j ≤ v.getD j 0) → ∀ j, j < o.n → d j ≤ c.getD j 0) (hp : o.pass c = c) : o.IsC v c := ⟨hc, hle, pass_cl ok hc hp, htop⟩
theorem pass_top (ok : o.ok) {v c : List Nat} (hc : c.length = o.n) (htop : ∀ d : Nat → Nat, o.Cl d → (∀ j, j < o.n → d j ≤ v.getD j 0) → ∀ j, j < o.n → d j ≤ c.getD j 0) : ∀ d : Nat → Nat, o.Cl d → (∀ j, j < o.n → d j ≤ v.getD j 0) → ∀ j, j < o.n → d j ≤ (o.pass c).getD j 0 :=
  fun d hd h => fold_above ok hd _ c hc (fun i hi => List.mem_range.1 hi) (htop d hd h)
def cool (o : OV) (v : List Nat) : List Nat := (List.range o.n).reverse.foldl o.rel v
theorem cool_length (v : List Nat) : (o.cool v).length = v.length := fold_length _ _
theorem down_keep (ok : o.ok) : ∀ (m : Nat) (v : List Nat) (j : Nat), v.length = o.n → m ≤ o.n → m ≤ j → ((List.range m).reverse.foldl o.rel v).getD j 0 = v.getD j 0
  | 0, v, j, hv, hm, hj => rfl
  | m + 1, v, j, hv, hm, hj => by
    rw [List.range_succ, List.reverse_append, List.reverse_singleton, List.singleton_append, List.foldl_cons, down_keep ok m _ j (by rw [rel_length, hv]) (by omega) (by omega), rel_at ok hv (by omega), if_neg (by have := ok.wg m (by omega); omega)]
theorem down_cl (ok : o.ok) : ∀ (m : Nat) (v : List Nat), v.length = o.n → m ≤ o.n → ∀ i, i < m → ((List.range m).reverse.foldl o.rel v).getD (o.w i) 0 ≤ ((List.range m).reverse.foldl o.rel v).getD i 0 + 1
  | 0, v, hv, hm, i, hi => by omega
  | m + 1, v, hv, hm, i, hi => by
    rw [List.range_succ, List.reverse_append, List.reverse_singleton, List.singleton_append, List.foldl_cons]
    have hv' : (o.rel v m).length = o.n := by rw [rel_length, hv]
    by_cases him : i = m
    · subst him
      have h0 := down_keep ok i (o.rel v i) i hv' (by omega) (Nat.le_refl _)
      have h1 := fold_le ok (List.range i).reverse (o.rel v i) hv' (fun x hx => by have := List.mem_range.1 (List.mem_reverse.1 hx); omega) (o.w i)
      have h2 := rel_at ok hv (show i < o.n by omega) (o.w i)
      rw [if_pos rfl] at h2
      have h3 := rel_at ok hv (show i < o.n by omega) i
      split at h3
      · rename_i he; rw [← he] at h1 h2 h3 ⊢; omega
      · omega
    · exact down_cl ok m _ hv' (by omega) i (by omega)
theorem cool_is (ok : o.ok) {v : List Nat} (hv : v.length = o.n) : o.IsC v (o.cool v) := by
  have hm : ∀ i ∈ (List.range o.n).reverse, i < o.n := fun i hi => List.mem_range.1 (List.mem_reverse.1 hi)
  exact ⟨by rw [cool_length, hv], fun j _ => fold_le ok _ v hv hm j, fun i hi => down_cl ok o.n v hv (Nat.le_refl _) i hi, fun d hd h => fold_above ok hd _ v hv hm h⟩
def cs1 (o : OV) (v nx : List Nat) (h : Nat) : List Nat := if o.can (h, h) then nx.set (o.c h) (min (nx.getD (o.c h) 0) (v.getD h 0)) else nx
def cstK (o : OV) (v : List Nat) (k : Nat) : List Nat := (List.range k).foldl (o.cs1 v) (List.replicate o.n far)
def cst (o : OV) (v : List Nat) : List Nat := o.cstK v o.n
theorem cs1_length (v nx : List Nat) (h : Nat) : (o.cs1 v nx h).length = nx.length := by unfold cs1; split <;> simp
theorem cstK_succ (v : List Nat) (k : Nat) : o.cstK v (k + 1) = o.cs1 v (o.cstK v k) k := by rw [cstK, List.range_succ, List.foldl_append]; rfl
theorem cstK_length (v : List Nat) : ∀ k, (o.cstK v k).length = o.n
  | 0 => by simp [cstK]
  | k + 1 => by rw [cstK_succ, cs1_length, cstK_length v k]
def st (o : OV) (j : Nat) : List Nat := (List.replicate o.n far).set j 0
def bk (o : OV) (j : Nat) : Nat → List Nat
  | 0 => o.cool (o.st j)
  | k + 1 => o.cool (o.cst (o.bk j k))
theorem bk_length (j k : Nat) : (o.bk j k).length = o.n := by
  cases k with
  | zero => rw [bk, cool_length]; simp [st]
  | succ k => rw [bk, cool_length]; exact cstK_length _ _
def Bd (o : OV) (t : Nat) (v : List Nat) : Prop := ∀ j, j < o.n → v.getD j 0 = far ∨ v.getD j 0 ≤ t
theorem Bd.rel (ok : o.ok) {t : Nat} {v : List Nat} (hv : v.length = o.n) (ht : t < far) (H : o.Bd t v) {i : Nat} (hi : i < o.n) : o.Bd (t + 1) (o.rel v i) := fun j hj => by
  rw [rel_at ok hv hi]
  have h1 := H j hj
  have h2 := H i hi
  have h3 := H (o.w i) (by have := ok.wg i hi; omega)
  split <;> omega
theorem Bd.mono {t u : Nat} {v : List Nat} (H : o.Bd t v) (h : t ≤ u) : o.Bd u v := fun j hj => (H j hj).imp id fun h1 => by omega
theorem Bd.fold (ok : o.ok) : ∀ (l : List Nat) (v : List Nat) (t : Nat), v.length = o.n → t + l.length < far → (∀ i ∈ l, i < o.n) → o.Bd t v → o.Bd (t + l.length) (l.foldl o.rel v)
  | [], v, t, hv, ht, hl, H => H
  | i :: l, v, t, hv, ht, hl, H => by
    rw [List.foldl_cons, List.length_cons]
    rw [List.length_cons] at ht
    have := Bd.fold ok l (o.rel v i) (t + 1) (by rw [rel_length, hv]) (by omega) (fun x hx => hl x (List.mem_cons_of_mem _ hx)) (H.rel ok hv (by omega) (hl i List.mem_cons_self))
    rwa [show t + (l.length + 1) = t + 1 + l.length by omega]
theorem Bd.cs1 (ok : o.ok) {t : Nat} {v nx : List Nat} (hn : nx.length = o.n) (H : o.Bd t v) (H2 : o.Bd t nx) {i : Nat} (hi : i < o.n) : o.Bd t (o.cs1 v nx i) := fun j hj => by
  unfold OV.cs1
  split
  · rw [getD_set' (by have := ok.cl i hi; omega)]
    have h1 := H2 j hj
    have h2 := H i hi
    have h3 := H2 (o.c i) (ok.cl i hi)
    split <;> omega
  · exact H2 j hj
theorem Bd.cstK (ok : o.ok) {t : Nat} {v : List Nat} (H : o.Bd t v) : ∀ k, k ≤ o.n → o.Bd t (o.cstK v k)
  | 0, _ => fun j hj => .inl (by rw [OV.cstK]; simp [List.getD_eq_getElem?_getD, hj])
  | k + 1, hk => by
    rw [cstK_succ]
    exact Bd.cs1 ok (cstK_length v k) H (Bd.cstK ok H k (by omega)) (by omega)
theorem bk_bd (ok : o.ok) {j : Nat} (hj : j < o.n) : ∀ k, k ≤ 40 → o.Bd ((k + 1) * o.n) (o.bk j k)
  | 0, _ => by
    have hs : o.Bd 0 (o.st j) := fun q hq => by
      rw [st, getD_set' (by simpa using hj)]
      split
      · exact .inr (Nat.le_refl _)
      · exact .inl (by simp [List.getD_eq_getElem?_getD, hq])
    have h16 := ok.n16
    have := Bd.fold ok (List.range o.n).reverse (o.st j) 0 (by simp [st]) (by rw [far_eq]; simp; omega) (fun i hi => List.mem_range.1 (List.mem_reverse.1 hi)) hs
    rw [List.length_reverse, List.length_range, Nat.zero_add] at this
    rw [Nat.zero_add, Nat.one_mul]
    exact this
  | k + 1, hk => by
    have h16 := ok.n16
    have ih := bk_bd ok hj k (by omega)
    have e : (k + 1 + 1) * o.n = (k + 1) * o.n + o.n := Nat.succ_mul _ _
    have hb : (k + 1) * o.n ≤ 41 * 16 := Nat.mul_le_mul (by omega) h16
    have := Bd.fold ok (List.range o.n).reverse (o.cst (o.bk j k)) ((k + 1) * o.n) (cstK_length _ _) (by rw [far_eq]; simp; omega) (fun i hi => List.mem_range.1 (List.mem_reverse.1 hi)) (Bd.cstK ok ih o.n (Nat.le_refl _))
    rw [bk, e]
    rw [List.length_reverse, List.length_range] at this
    exact this
end OV
end Go.Proofs.YtafemfjhflfdeaaDoor
end
section
namespace Go.Proofs.YtafemfjhflfdeaaDoor
set_option linter.unusedSimpArgs false
set_option linter.unusedVariables false
set_option linter.defProp false
namespace OV
variable {o : OV}
theorem getB_set {v : List Bool} {i j : Nat} {x d : Bool} (hi : i < v.length) : (v.set i x).getD j d = if j = i then x else v.getD j d := by
  rw [List.getD_eq_getElem?_getD, List.getD_eq_getElem?_getD, List.getElem?_set]
  by_cases h : i = j
  · subst h; simp [hi]
  · rw [if_neg h, if_neg (fun hh => h hh.symm)]
def rst (o : OV) (R : List Bool) (h : Nat) : List Bool := if R.getD h false then (if o.can (h, h) then (R.set (o.w h) true).set (o.c h) true else R.set (o.w h) true) else R
theorem rst_length (R : List Bool) (h : Nat) : (o.rst R h).length = R.length := by
  unfold rst
  split
  · split <;> simp
  · rfl
def Shut (o : OV) (S : Nat → Prop) : Prop := ∀ h, h < o.n → S h → S (o.w h) ∧ (o.can (h, h) = true → S (o.c h))
theorem rst_keep (ok : o.ok) {R : List Bool} (hR : R.length = o.n) {h : Nat} (hh : h < o.n) {j : Nat} (hj : R.getD j false = true) : (o.rst R h).getD j false = true := by
  have hw := ok.wg h hh
  have hc := ok.cl h hh
  unfold rst
  split
  · split
    · rw [getB_set (by simp; omega), getB_set (by omega)]
      split
      · rfl
      · split
        · rfl
        · exact hj
    · rw [getB_set (by omega)]
      split
      · rfl
      · exact hj
  · exact hj
theorem rst_sub (ok : o.ok) {R : List Bool} (hR : R.length = o.n) {h : Nat} (hh : h < o.n) {S : Nat → Prop} (hS : o.Shut S) (H : ∀ j, R.getD j false = true → S j) : ∀ j, (o.rst R h).getD j false = true → S j := by
  have hw := ok.wg h hh
  have hc := ok.cl h hh
  intro j hj
  unfold rst at hj
  split at hj
  · rename_i h1
    have h2 := hS h hh (H h h1)
    split at hj
    · rename_i h3
      rw [getB_set (by simp; omega), getB_set (by omega)] at hj
      split at hj
      · rename_i he; rw [he]; exact h2.2 h3
      · split at hj
        · rename_i he; rw [he]; exact h2.1
        · exact H j hj
    · rw [getB_set (by omega)] at hj
      split at hj
      · rename_i he; rw [he]; exact h2.1
      · exact H j hj
  · exact H j hj
theorem rst_step (ok : o.ok) {R : List Bool} (hR : R.length = o.n) {h : Nat} (hh : h < o.n) (h1 : R.getD h false = true) : (o.rst R h).getD (o.w h) false = true ∧ (o.can (h, h) = true → (o.rst R h).getD (o.c h) false = true) := by
  have hw := ok.wg h hh
  have hc := ok.cl h hh
  unfold rst
  rw [if_pos h1]
  by_cases h3 : o.can (h, h) = true
  · rw [if_pos h3]
    refine ⟨?_, fun _ => ?_⟩
    · rw [getB_set (by simp; omega), getB_set (by omega)]
      split <;> simp
    · rw [getB_set (by simp; omega), if_pos rfl]
  · rw [if_neg h3]
    exact ⟨by rw [getB_set (by omega), if_pos rfl], fun h => absurd h h3⟩
theorem rfold_length : ∀ (l : List Nat) (R : List Bool), (l.foldl o.rst R).length = R.length
  | [], R => rfl
  | i :: l, R => by rw [List.foldl_cons, rfold_length l, rst_length]
theorem rfold_keep (ok : o.ok) : ∀ (l : List Nat) (R : List Bool), R.length = o.n → (∀ i ∈ l, i < o.n) → ∀ j, R.getD j false = true → (l.foldl o.rst R).getD j false = true
  | [], R, hR, hl, j, hj => hj
  | i :: l, R, hR, hl, j, hj => by
    rw [List.foldl_cons]
    exact rfold_keep ok l _ (by rw [rst_length, hR]) (fun x hx => hl x (List.mem_cons_of_mem _ hx)) j (rst_keep ok hR (hl i List.mem_cons_self) hj)
theorem rfold_sub (ok : o.ok) {S : Nat → Prop} (hS : o.Shut S) : ∀ (l : List Nat) (R : List Bool), R.length = o.n → (∀ i ∈ l, i < o.n) → (∀ j, R.getD j false = true → S j) → ∀ j, (l.foldl o.rst R).getD j false = true → S j
  | [], R, hR, hl, H, j, hj => H j hj
  | i :: l, R, hR, hl, H, j, hj => by
    rw [List.foldl_cons] at hj
    exact rfold_sub ok hS l _ (by rw [rst_length, hR]) (fun x hx => hl x (List.mem_cons_of_mem _ hx)) (rst_sub ok hR (hl i List.mem_cons_self) hS H) j hj
theorem rfold_step (ok : o.ok) : ∀ (l : List Nat) (R : List Bool), R.length = o.n → (∀ i ∈ l, i < o.n) → ∀ i ∈ l, R.getD i false = true → (l.foldl o.rst R).getD (o.w i) false = true ∧ (o.can (i, i) = true → (l.foldl o.rst R).getD (o.c i) false = true)
  | [], R, hR, hl, i, hi, h => by cases hi
  | q :: l, R, hR, hl, i, hi, h => by
    rw [List.foldl_cons]
    have hq := hl q List.mem_cons_self
    have hl' : ∀ i ∈ l, i < o.n := fun x hx => hl x (List.mem_cons_of_mem _ hx)
    have hR' : (o.rst R q).length = o.n := by rw [rst_length, hR]
    rcases List.mem_cons.1 hi with rfl | hi
    · have := rst_step ok hR hq h
      exact ⟨rfold_keep ok l _ hR' hl' _ this.1, fun hc => rfold_keep ok l _ hR' hl' _ (this.2 hc)⟩
    · exact rfold_step ok l _ hR' hl' i hi (rst_keep ok hR hq h)
def rpass (o : OV) (R : List Bool) : List Bool := (List.range o.n).foldl o.rst R
theorem rpass_length (R : List Bool) : (o.rpass R).length = R.length := rfold_length _ _
def rit (o : OV) (R : List Bool) : Nat → List Bool
  | 0 => R
  | k + 1 => o.rpass (o.rit R k)
theorem rit_length (R : List Bool) : ∀ k, (o.rit R k).length = R.length
  | 0 => rfl
  | k + 1 => by rw [rit, rpass_length, rit_length R k]
def rone (o : OV) (i : Nat) : List Bool := (List.replicate o.n false).set i true
def rch (o : OV) (i : Nat) : List Bool := o.rit (o.rone i) o.n
theorem count_le : ∀ (xs ys : List Bool), xs.length = ys.length → (∀ j, xs.getD j false = true → ys.getD j false = true) → xs.count true ≤ ys.count true ∧ (xs ≠ ys → xs.count true < ys.count true)
  | [], [], _, _ => ⟨Nat.le_refl _, fun h => absurd rfl h⟩
  | x :: xs, y :: ys, hl, H => by
    have h0 : x = true → y = true := by simpa using H 0
    have ih := count_le xs ys (by simpa using hl) fun j hj => by simpa using H (j + 1) (by simpa using hj)
    simp only [List.count_cons]
    cases x <;> cases y
    · simp only [beq_iff_eq, Bool.false_eq_true, if_false]
      exact ⟨ih.1, fun hne => ih.2 fun h => hne (by rw [h])⟩
    · simp
      omega
    · simp at h0
    · simp
      exact ⟨ih.1, fun hne => ih.2 hne⟩
structure IsR (o : OV) (i : Nat) (R : List Bool) : Prop where
  len : R.length = o.n
  at0 : R.getD i false = true
  shut : o.Shut fun j => R.getD j false = true
  least : ∀ S : Nat → Prop, o.Shut S → S i → ∀ j, R.getD j false = true → S j
theorem IsR.uniq {i : Nat} {R R' : List Bool} (h : o.IsR i R) (h' : o.IsR i R') : R = R' := by
  apply List.ext_getElem (by rw [h.len, h'.len])
  intro j h1 h2
  have a := h.least _ h'.shut h'.at0 j
  have b := h'.least _ h.shut h.at0 j
  simp only [List.getD, List.getElem?_eq_getElem h1, List.getElem?_eq_getElem h2, Option.getD_some] at a b
  rw [Bool.eq_iff_iff]
  exact ⟨a, b⟩
theorem rone_at {i j : Nat} (hi : i < o.n) : (o.rone i).getD j false = true ↔ j = i := by
  rw [rone, getB_set (by simpa using hi)]
  split
  · simp [*]
  · rename_i h; simp [h, List.getD_eq_getElem?_getD, List.getElem?_replicate]
    split <;> simp
theorem rit_fix (ok : o.ok) {R : List Bool} (hR : R.length = o.n) (h1 : 1 ≤ R.count true) : ∀ k, o.rpass (o.rit R k) = o.rit R k ∨ k + 1 ≤ (o.rit R k).count true
  | 0 => .inr h1
  | k + 1 => by
    by_cases hf : o.rpass (o.rit R k) = o.rit R k
    · left; rw [rit, hf, hf]
    · right
      rcases rit_fix ok hR h1 k with h | h
      · exact absurd h hf
      · have := (count_le (o.rit R k) (o.rpass (o.rit R k)) (by rw [rpass_length]) (rfold_keep ok _ _ (by rw [rit_length, hR]) fun i hi => List.mem_range.1 hi)).2 fun h => hf h.symm
        rw [rit]; omega
theorem rch_is (ok : o.ok) {i : Nat} (hi : i < o.n) : o.IsR i (o.rch i) := by
  have h0 : (o.rone i).length = o.n := by simp [rone]
  have hrg : ∀ i ∈ List.range o.n, i < o.n := fun i hi => List.mem_range.1 hi
  have hk : ∀ k j, (o.rone i).getD j false = true → (o.rit (o.rone i) k).getD j false = true := fun k => by
    induction k with
    | zero => exact fun j h => h
    | succ k ih => exact fun j h => rfold_keep ok _ _ (by rw [rit_length, h0]) hrg j (ih j h)
  have hs : ∀ (S : Nat → Prop), o.Shut S → S i → ∀ k j, (o.rit (o.rone i) k).getD j false = true → S j := fun S hS hi' k => by
    induction k with
    | zero => exact fun j h => by rw [(rone_at hi).1 h]; exact hi'
    | succ k ih => exact fun j h => rfold_sub ok hS _ _ (by rw [rit_length, h0]) hrg ih j h
  have hfix : o.rpass (o.rch i) = o.rch i := by
    rcases rit_fix ok h0 (by
      have : true ∈ o.rone i := by
        have := (rone_at (j := i) hi).2 rfl
        rw [List.getD_eq_getElem?_getD] at this
        have hh : i < (o.rone i).length := by rw [h0]; exact hi
        rw [List.getElem?_eq_getElem hh, Option.getD_some] at this
        exact this ▸ List.getElem_mem hh
      exact List.count_pos_iff.2 this) o.n with h | h
    · exact h
    · have := List.count_le_length (a := true) (l := o.rit (o.rone i) o.n)
      rw [rit_length, h0] at this
      omega
  refine ⟨by rw [rch, rit_length, h0], hk _ _ ((rone_at hi).2 rfl), fun h hh h1 => ?_, fun S hS hi' => hs S hS hi' _⟩
  have := rfold_step ok (List.range o.n) (o.rch i) (by rw [rch, rit_length, h0]) hrg h (List.mem_range.2 hh) h1
  rw [show (List.range o.n).foldl o.rst (o.rch i) = o.rch i from hfix] at this
  exact this
end OV
end Go.Proofs.YtafemfjhflfdeaaDoor
end
section
namespace Go.Proofs.YtafemfjhflfdeaaDoor
set_option linter.unusedSimpArgs false
set_option linter.unusedVariables false
set_option linter.defProp false
namespace OV
variable {o : OV}
theorem cs1_le (ok : o.ok) {v nx : List Nat} (hn : nx.length = o.n) {i : Nat} (hi : i < o.n) (j : Nat) : (o.cs1 v nx i).getD j 0 ≤ nx.getD j 0 := by
  unfold cs1
  split
  · rw [getD_set' (by have := ok.cl i hi; omega)]
    split
    · rename_i h; rw [h]; exact Nat.min_le_left _ _
    · exact Nat.le_refl _
  · exact Nat.le_refl _
theorem cstK_le (ok : o.ok) (v : List Nat) : ∀ k, k ≤ o.n → ∀ h, h < k → o.can (h, h) = true → (o.cstK v k).getD (o.c h) 0 ≤ v.getD h 0
  | 0, hk, h, hh, hc => by omega
  | k + 1, hk, h, hh, hc => by
    rw [cstK_succ]
    by_cases he : h = k
    · subst he
      rw [cs1, if_pos hc, getD_set' (by rw [cstK_length]; exact ok.cl h (by omega)), if_pos rfl]
      exact Nat.min_le_right _ _
    · exact Nat.le_trans (cs1_le ok (cstK_length v k) (by omega) _) (cstK_le ok v k (by omega) h (by omega) hc)
theorem st_at {j : Nat} (hj : j < o.n) : (o.st j).getD j 0 = 0 := by rw [st, getD_set' (by simpa using hj), if_pos rfl]
theorem bk_w (ok : o.ok) (j k i : Nat) (hi : i < o.n) : (o.bk j k).getD (o.w i) 0 ≤ (o.bk j k).getD i 0 + 1 := by
  cases k with
  | zero => exact (cool_is ok (v := o.st j) (by simp [st])).cl i hi
  | succ k => exact (cool_is ok (v := o.cst (o.bk j k)) (cstK_length _ _)).cl i hi
theorem bk_c (ok : o.ok) (j k i : Nat) (hi : i < o.n) (hc : o.can (i, i) = true) : (o.bk j (k + 1)).getD (o.c i) 0 ≤ (o.bk j k).getD i 0 :=
  Nat.le_trans ((cool_is ok (v := o.cst (o.bk j k)) (cstK_length _ _)).le _ (ok.cl i hi)) (cstK_le ok _ o.n (Nat.le_refl _) i hi hc)
theorem bk_zero (ok : o.ok) {j : Nat} (hj : j < o.n) : (o.bk j 0).getD j 0 = 0 := by
  have := (cool_is ok (v := o.st j) (by simp [st])).le j hj
  rw [st_at hj] at this
  exact Nat.le_zero.1 this
theorem run_bk (ok : o.ok) {j : Nat} (hj : j < o.n) : ∀ (p : List Bool) (k t u : Nat), t < o.n → o.run (t, t) p = some (u, u) → (o.bk j (k + casts p)).getD u 0 + casts p ≤ (o.bk j k).getD t 0 + p.length
  | [], k, t, u, ht, hp => by cases hp; simp [casts]
  | false :: p, k, t, u, ht, hp => by
    have := run_bk ok hj p k (o.w t) u (by have := ok.wg t ht; omega) hp
    have h2 := bk_w ok j k t ht
    have h4 : casts (false :: p) = casts p := casts_cons _ _
    rw [h4, List.length_cons]
    omega
  | true :: p, k, t, u, ht, hp => by
    rw [run_cons, step, if_pos rfl] at hp
    split at hp
    · rename_i hc
      have := run_bk ok hj p (k + 1) (o.c t) u (ok.cl t ht) hp
      have h2 := bk_c ok j k t ht hc
      have h4 : casts (true :: p) = casts p + 1 := casts_cons _ _
      rw [h4, List.length_cons, show k + (casts p + 1) = k + 1 + casts p by omega]
      omega
    · cases hp
theorem bk_least (ok : o.ok) {j u : Nat} {p : List Bool} (hj : j < o.n) (hp : o.run (j, j) p = some (u, u)) : (o.bk j (casts p)).getD u 0 + casts p ≤ p.length := by
  have := run_bk ok hj p 0 j u hj hp
  rw [bk_zero ok hj, Nat.zero_add, Nat.zero_add] at this
  exact this
theorem run_rch (ok : o.ok) {i : Nat} (hi : i < o.n) : ∀ (p : List Bool) (t u : Nat), t < o.n → (o.rch i).getD t false = true → o.run (t, t) p = some (u, u) → (o.rch i).getD u false = true
  | [], t, u, ht, h, hp => by cases hp; exact h
  | false :: p, t, u, ht, h, hp => run_rch ok hi p (o.w t) u (by have := ok.wg t ht; omega) ((rch_is ok hi).shut t ht h).1 hp
  | true :: p, t, u, ht, h, hp => by
    rw [run_cons, step, if_pos rfl] at hp
    split at hp
    · rename_i hc
      exact run_rch ok hi p (o.c t) u (ok.cl t ht) (((rch_is ok hi).shut t ht h).2 hc) hp
    · cases hp
def byP (a b : Nat) : Nat × Nat := (a / Nat.gcd a b, b / Nat.gcd a b)
def isBk (o : OV) (i h k : Nat) : Bool := decide ((o.bk h k).getD h 0 < far) && (o.rch i).getD h false
def rtX (o : OV) (i h k : Nat) : List (Nat × Nat) := if o.isBk i h k then [byP ((o.bk h k).getD h 0) k] else []
def rtH (o : OV) (i h k : Nat) : List (Nat × Nat) := (List.range k).flatMap fun j => o.rtX i h (j + 1)
def rtL (o : OV) (i h : Nat) : List (Nat × Nat) := (List.range h).flatMap fun j => o.rtH i j o.n
theorem rtH_succ (i h k : Nat) : o.rtH i h (k + 1) = o.rtH i h k ++ o.rtX i h (k + 1) := by simp [rtH, List.range_succ]
theorem rtL_succ (i h : Nat) : o.rtL i (h + 1) = o.rtL i h ++ o.rtH i h o.n := by simp [rtL, List.range_succ]
def lessQ (a b : Nat × Nat) : Bool := decide (a.1 * b.2 < b.1 * a.2)
def bestQ (x : Nat × Nat) (l : List (Nat × Nat)) : Nat × Nat := l.foldl (fun out y => if lessQ y out then y else out) x
def rate (o : OV) (i : Nat) : Nat × Nat := match o.rtL i o.n with
  | [] => (0, 0)
  | x :: l => bestQ x l
theorem rtL_some (ok : o.ok) {i : Nat} (hi : i < o.n) (h : (o.lw o.n (i, i)).isSome) : o.rtL i o.n ≠ [] := by
  obtain ⟨x, hx⟩ := Option.isSome_iff_exists.1 h
  have hin : o.In (i, i) := ⟨hi, hi⟩
  obtain ⟨⟨t, ht⟩, h1, h2⟩ := pl_run ok hin hx
  obtain ⟨a, b, c, he, hb, hbn, u, hu, hv⟩ := twice ok hi ht (by omega)
  have hun : u < o.n := (in_run ok hin hu).1
  have hre := run_rch ok hi a i u hi (rch_is ok hi).at0 hu
  have hlen := congrArg List.length he
  simp only [List.length_append] at hlen
  obtain ⟨n', hn'⟩ : ∃ n', o.n = n' + 1 := ⟨o.n - 1, by omega⟩
  have hxb : x ≤ 300 := by
    rw [hn'] at hx
    have := lw_bound ok n' i x hi hx
    have h16 := ok.n16
    have hm : n' * (o.n - 1) ≤ 15 * 15 := Nat.mul_le_mul (by omega) (by omega)
    omega
  have hbk := bk_least ok hun hv
  have h16 := ok.n16
  intro hnil
  have hmem : byP ((o.bk u (casts b)).getD u 0) (casts b) ∈ o.rtL i o.n := by
    rw [rtL, List.mem_flatMap]
    refine ⟨u, List.mem_range.2 hun, ?_⟩
    rw [rtH, List.mem_flatMap]
    refine ⟨casts b - 1, List.mem_range.2 (by omega), ?_⟩
    rw [show casts b - 1 + 1 = casts b by omega, rtX, if_pos]
    · exact List.mem_singleton.2 rfl
    · have hlt : (o.bk u (casts b)).getD u 0 < far := by rw [far_eq]; omega
      rw [isBk, hre, decide_eq_true hlt]
      rfl
  rw [hnil] at hmem
  cases hmem
end OV
end Go.Proofs.YtafemfjhflfdeaaDoor
end
section
namespace Go.Proofs.YtafemfjhflfdeaaDoor
open Go Go.Proofs Go.Eng Go.Run Tab
set_option maxRecDepth 100000
set_option linter.unusedSimpArgs false
set_option linter.unusedVariables false
set_option linter.defProp false
set_option maxHeartbeats 4000000
set_option linter.defProp false
def H25Fs92 := (And.intro (And.intro (And.intro (And.intro @agg22 @agg3) (And.intro @agg97 @by3)) (And.intro (And.intro @fo112_0 @fo24_0) (And.intro @fo24_1 @inf22))) (And.intro (And.intro (And.intro @inf3 @inf97) (And.intro @sz22 @sz3)) (And.intro (And.intro @sz97 @zero97) (And.intro @Tryd.underlying3 (And.intro @Tryd.underlying22 @Tryd.underlying97)))))
def pad (v : List Nat) : List Int := (v ++ List.replicate (16 - v.length) OV.far).map fun j : Nat => (j : Int)
theorem pad_length {v : List Nat} (h : v.length ≤ 16) : (pad v).length = 16 := by simp [pad]; omega
theorem pad_at {v : List Nat} {i : Nat} (hi : i < v.length) : (pad v).getD i 0 = (v.getD i 0 : Nat) := by
  rw [pad, List.map_append, List.getD_eq_getElem?_getD, List.getElem?_append_left (by simpa using hi), List.getD_eq_getElem?_getD]
  simp [List.getElem?_eq_getElem hi]
theorem pad_cell {v : List Nat} (h : v.length ≤ 16) {i : Nat} (hi : i < v.length) : (Eng.ints (pad v))[i]? = some (.int .i64 ((v.getD i 0 : Nat) : Int)) := by
  rw [ints_getElem? _ _ (by rw [pad_length h]; omega), pad_at hi]
theorem pad_set {v : List Nat} {i x : Nat} (hi : i < v.length) : (pad v).set i (x : Int) = pad (v.set i x) := by
  simp only [pad, List.length_set]
  rw [List.map_append, List.map_append, List.set_append_left _ _ (by simpa using hi), List.map_set]
theorem pad_inj {v w : List Nat} (hl : v.length = w.length) (h : pad v = pad w) : v = w := by
  refine OV.nat_ext hl fun i hi => ?_
  have h1 : (pad v).getD i 0 = (pad w).getD i 0 := by rw [h]
  rw [pad_at hi, pad_at (by omega)] at h1
  omega
abbrev hts (v : List Nat) : Value := .agg (Eng.ints (pad v)).toArray
def sumV (h : Option Obj) : Nat := match h with
  | some (.cells cs _ _) => ((cs.toList.map fun v => match v with | .int _ q => q.toNat | _ => 0).take 16).sum
  | _ => 0
theorem sumV_pad {v : List Nat} (h : v.length ≤ 16) {ct : TypeId} : sumV (some (.cells (Eng.ints (pad v)).toArray ct)) = v.sum + (16 - v.length) * OV.far := by
  simp only [sumV, List.toList_toArray]
  rw [List.take_of_length_le (by simp [Eng.ints, pad_length h])]
  simp [Eng.ints, pad, List.map_map, Function.comp_def, List.sum_append]
theorem pad_ces {v : List Nat} (h : v.length ≤ 16) {ct : TypeId} : cesO (some (.cells (Eng.ints (pad v)).toArray ct)) 0 16 = some (Eng.ints (pad v)) := by
  rw [cesO_cells (by rw [Eng.ints_length, pad_length h]; exact Nat.le_refl _), List.drop_zero, List.take_of_length_le (by rw [Eng.ints_length, pad_length h]; exact Nat.le_refl _)]
theorem splice_all {c vs : List Value} (h : c.length = vs.length) : Eng.splice c 0 vs = vs := by
  rw [Eng.splice, List.take_zero, List.nil_append, List.drop_of_length_le (by omega), List.append_nil]
theorem st_hts {cur : List Value} {xs : List Int} (hx : xs.length = 16) (hc : cur.length = 16) {g : Nat} {h : Eng.Heap} {K : Value → Eng.Heap → Prop} (hb : h[g]? = some (.cells cur.toArray 97))
    (H : ∀ h', h'[g]? = some (.cells (Eng.ints xs).toArray 97) → Upd h h' g → K undef h') : storeW Tryd.prog 97 (.pointer (some ⟨g, 0, none⟩)) (.agg (Eng.ints xs).toArray) h K := by
  have e0 : (Value.agg (Eng.ints xs).toArray).cells.toList = Eng.ints xs := by simp [Value.cells]
  rw [storeW_at inf97 (by rw [sz97]; simp [Value.cells, Eng.ints, hx]) (by rw [e0]; simp [Eng.ints, Eng.one]; intro x _; rfl), e0, rowH_eq, hb, rowO_cells]
  refine stK_abs hb (by rw [Eng.ints_length]; omega) fun h' g' u' => H h' ?_ u'
  rwa [splice_all (by rw [Eng.ints_length]; omega)] at g'
theorem cooled92 (m : MV) (gd : m.Good) (hn16 : m.casts.length ≤ 16) (b : Nat) (v : List Nat) (hv : v.length = m.casts.length) (hb : ∀ j, j < m.casts.length → v.getD j 0 ≤ OV.far) (h : Eng.Heap) (hm : m.ok h) (ho : Oven h b m) :
    CallsH Tryd.prog 92 #[.pointer (some ⟨b, 0, none⟩), hts v] h (fun r h' => r = hts (m.ov.cool v) ∧ Ext h h') := by
  have ho' : h[b]? = some (.cells #[.slice m.a m.casts.length m.ca, .slice m.b m.waits.length m.cb, .int .i64 m.lo, .int .i64 m.hi] 112) := ho
  have hcl := hm.cl
  (refine CallsH_of_exec Tryd.func92 rfl bod92 ?_; simp only [Tryd.ntmps92, Tryd.results92, coreS, stK_some, splice, Value.cells, Value.oneCell', Nat.reduceAdd, Nat.reduceSub, Nat.reduceMul, Nat.reduceLeDiff, Int.reduceEq, Nat.reduceEqDiff, H25Fs92])
  have x0 : Ext h ((h.push (.cells (Eng.ints (pad v)).toArray 97)).push (.cells (Eng.ints (List.replicate 16 0)).toArray 97)) := ((Ext.refl h).push _).push _
  refine WP_loopI [5, 6, 7, 8, 9, 10, 11, 12, 13, 14, 15, 16, 17, 18, 19, 20, 21, 22, 23, 24, 25, 26, 27, 28, 29, 30, 31, 32, 33, 34, 35, 36, 37, 38, 39, 40, 41, 42, 43, 44, 45] (fun g h' => ∃ c : List Nat, c.length = m.ov.n ∧ h'[h.size]? = some (.cells (Eng.ints (pad c)).toArray 97) ∧ h'[h.size + 1]? = some (.cells (Eng.ints (List.replicate 16 0)).toArray 97) ∧ Ext h h' ∧ (∀ j, j < m.ov.n → c.getD j 0 ≤ v.getD j 0) ∧ ∀ d : Nat → Nat, m.ov.Cl d → (∀ j, j < m.ov.n → d j ≤ v.getD j 0) → ∀ j, j < m.ov.n → d j ≤ c.getD j 0) (fun _ h' => sumV h'[h.size]?) ⟨v, hv, pn0, pn1, x0, fun j _ => Nat.le_refl _, fun d _ hd => hd⟩ ?_
  rintro g h1 ⟨c, hcl1, k0, k1, y1, hle, htop⟩
  have hcn : c.length = m.casts.length := hcl1
  have hs1 := lt_of_get k1
  have ho1 := y1.get ho'
  have hc16 : c.length ≤ 16 := by omega
  simp only [k0, ho1, pad_ces hc16, coreS, Value.cells, Value.oneCell', Nat.reduceAdd, Nat.reduceSub, Nat.reduceMul, Nat.reduceLeDiff, Int.reduceEq, Nat.reduceEqDiff, H25Fs92]
  refine st_hts (cur := Eng.ints (List.replicate 16 0)) (pad_length hc16) (by rfl) push_new fun h2 g2 u2 => ?_
  have y2 : Ext h h2 := u2.ext (y1.push _) (by omega)
  have j0 := u2.get (push_old k0) (by omega)
  have j1 := u2.get (push_old k1) (by omega)
  have hs2 : h2.size = h1.size + 1 := by rw [u2.size]; simp
  simp only [y2.get ho', coreS, Value.cells, Value.oneCell', Nat.reduceAdd, Nat.reduceSub, Nat.reduceMul, Nat.reduceLeDiff, Int.reduceEq, Nat.reduceEqDiff, H25Fs92]
  refine WP_loopI [6, 14, 15, 16, 17, 18, 19, 20, 21, 22, 23, 24, 25, 26, 27, 28, 29, 30, 31, 32, 33, 34, 35, 36, 37, 38, 39, 40, 41] (fun g h' => ∃ i : Nat, i ≤ m.casts.length ∧ g 14 = .int .i64 i ∧ h'[h.size]? = some (.cells (Eng.ints (pad ((List.range i).foldl m.ov.rel c))).toArray 97) ∧ h'[h.size + 1]? = some (.cells (Eng.ints (List.replicate 16 0)).toArray 97) ∧ h'[h1.size]? = some (.cells (Eng.ints (pad c)).toArray 97) ∧ Ext h h') (fun g _ => match g 14 with | .int _ q => m.casts.length - q.toNat | _ => 0) ⟨0, by omega, rfl, j0, j1, g2, y2⟩ ?_
  rintro g3 h3 ⟨i, hi, hg, q0, q1, q2, y3⟩
  obtain ⟨ci, hci⟩ : ∃ ci, ci = (List.range i).foldl m.ov.rel c := ⟨_, rfl⟩
  have hcil : ci.length = m.casts.length := by rw [hci, OV.fold_length]; exact hcn
  rw [← hci] at q0
  have hm3 := hm.ext y3
  have ho3 := y3.get ho'
  by_cases hlt : i < m.casts.length
  · have hlt2 : (i : Int) < m.casts.length := by omega
    have hwi : m.ov.w i < m.casts.length := by have := gd.ok.wg i hlt; omega
    have w1 := hm3.w.cell (j := i) (by rw [gd.wl]; exact hlt)
    rw [gd.w i hlt] at w1
    have sm := hm3.w.isSome (show 0 < m.waits.length by rw [gd.wl]; omega)
    have wl := gd.wl
    have d1 := pad_cell (v := ci) (by omega) (i := m.ov.w i) (by omega)
    have d2 := pad_cell (v := ci) (by omega) (i := i) (by omega)
    have bd : ∀ j, j < m.casts.length → ci.getD j 0 ≤ OV.far := fun j hj => by
      have a1 := OV.fold_le gd.ok (List.range i) c hcl1 (fun x hx => by have := List.mem_range.1 hx; show x < m.casts.length; omega) j
      rw [← hci] at a1
      have a2 := hle j hj
      have a3 := hb j hj
      omega
    have b1 := bd i hlt
    rw [OV.far_eq] at b1
    simp only [hg, hlt2, decide_true, coreS, Value.cells, Value.oneCell', Nat.reduceAdd, Nat.reduceSub, Nat.reduceMul, Nat.reduceLeDiff, Int.reduceEq, Nat.reduceEqDiff, H25Fs92]
    refine WP_draw (by kernel_rfl) sta_eq [(0, 0), (1, 0), (2, 0), (3, 0), (4, 0), (5, 0), (6, 0), (7, 0), (8, 0), (9, 0), (10, 0), (11, 0), (12, 0), (13, 0), (14, 0), (15, 0), (16, 0), (17, 0), (18, 0), (19, 0), (20, 0), (21, 0), (22, 0), (23, 0), (24, 1)] (by kernel_rfl) rfl (by kernel_rfl) ?_
    simp only [q0, ho3, w1, d1, d2, Int.toNat_natCast, hvK_eq, coreS, Value.cells, Value.oneCell', Nat.reduceAdd, Nat.reduceSub, Nat.reduceMul, Nat.reduceLeDiff, Int.reduceEq, Nat.reduceEqDiff, drawS, H25Fs92]
    repeat (refine And.intro (by first | omega | (rw [inK_i64]; omega) | rfl | assumption | (exact sm)) ?_)
    have emin : (if ((ci.getD i 0 : Nat) : Int) + 1 < ((ci.getD (m.ov.w i) 0 : Nat) : Int) then ((ci.getD i 0 : Nat) : Int) + 1 else ((ci.getD (m.ov.w i) 0 : Nat) : Int)) = ((min (ci.getD (m.ov.w i) 0) (ci.getD i 0 + 1) : Nat) : Int) := by split <;> omega
    rw [emin]
    refine stK_int q0 (by rw [pad_length (by omega)]; omega) fun h4 g4 u4 => ?_
    rw [pad_set (by omega)] at g4
    have enx : (List.range (i + 1)).foldl m.ov.rel c = ci.set (m.ov.w i) (min (ci.getD (m.ov.w i) 0) (ci.getD i 0 + 1)) := by
      rw [List.range_succ, List.foldl_append, ← hci]; rfl
    rw [← enx] at g4
    simp only [hvK_eq, coreS, Value.cells, Value.oneCell', Nat.reduceAdd, Nat.reduceSub, Nat.reduceMul, Nat.reduceLeDiff, Int.reduceEq, Nat.reduceEqDiff, drawS, H25Fs92]
    refine ⟨by rw [inK_i64]; omega, roundK_mk (by kernel_rfl) ⟨i + 1, by omega, rfl, g4, u4.get q1 (by omega), u4.get q2 (by omega), u4.ext y3 (Nat.le_refl _)⟩ ?_⟩
    show m.casts.length - ((i : Int) + 1).toNat < m.casts.length - (i : Int).toNat
    omega
  · have hlt2 : ¬ (i : Int) < m.casts.length := by omega
    obtain rfl : i = m.casts.length := by omega
    simp only [hg, hlt2, q0, q2, pad_ces hc16, pad_ces (v := ci) (by omega), decide_false, coreS, Value.cells, Value.oneCell', Nat.reduceAdd, Nat.reduceSub, Nat.reduceMul, Nat.reduceLeDiff, Int.reduceEq, Nat.reduceEqDiff, H25Fs92]
    have hcp : ci = m.ov.pass c := hci
    refine eqIntsW (xs := pad ci) (ys := pad c) Pt.ok (ti := (Pt.pr.ty 97).getD ⟨0, 0, .any, .other, []⟩) (by kernel_rfl) (by rw [pad_length (by omega), pad_length hc16]) (by rw [pad_length (by omega)]; omega) (by rw [pad_length (by omega)]; kernel_rfl) (by rfl) (by rfl) ?_
    have htop2 := OV.pass_top gd.ok hcl1 htop
    rw [← hcp] at htop2
    have hle2 : ∀ j, ci.getD j 0 ≤ c.getD j 0 := fun j => by rw [hcp]; exact OV.pass_le gd.ok hcl1 j
    by_cases heq : pad ci = pad c
    · have hcc : ci = c := pad_inj (by omega) heq
      have hfin : c = m.ov.cool v := (OV.pass_fix gd.ok hcl1 hle htop (by rw [← hcp, hcc])).uniq (OV.cool_is gd.ok hv)
      rw [hcc] at q0
      simp only [heq, q0, pad_ces hc16, decide_true, coreS, Value.cells, Value.oneCell', Nat.reduceAdd, Nat.reduceSub, Nat.reduceMul, Nat.reduceLeDiff, Int.reduceEq, Nat.reduceEqDiff, H25Fs92]
      refine st_hts (cur := Eng.ints (List.replicate 16 0)) (pad_length hc16) (by rfl) q1 fun h5 g5 u5 => ?_
      simp only [g5, pad_ces hc16, coreS, Value.cells, Value.oneCell', Nat.reduceAdd, Nat.reduceSub, Nat.reduceMul, Nat.reduceLeDiff, Int.reduceEq, Nat.reduceEqDiff, H25Fs92]
      exact ⟨by rw [hfin], u5.ext y3 (by omega)⟩
    · simp only [heq, decide_false, coreS, Value.cells, Value.oneCell', Nat.reduceAdd, Nat.reduceSub, Nat.reduceMul, Nat.reduceLeDiff, Int.reduceEq, Nat.reduceEqDiff, H25Fs92]
      refine roundK_mk (by kernel_rfl) ⟨ci, hcil, q0, q1, y3, fun j hj => Nat.le_trans (hle2 j) (hle j hj), htop2⟩ ?_
      rw [q0, sumV_pad (by omega), sumV_pad hc16, hcil, hcn]
      have := (OV.sum_le ci c (by omega) fun j _ => hle2 j).2 fun hh => heq (by rw [hh])
      omega
end Go.Proofs.YtafemfjhflfdeaaDoor
end
