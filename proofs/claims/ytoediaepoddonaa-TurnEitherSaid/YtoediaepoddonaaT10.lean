/- Walks: Values, AppendSeq, Collect, Sort, Sorted. -/
import Derived.Test.YtoediaepoddonaaT9
import Derived.Test.YtoediaepoddonaaT3
namespace Go.Proofs.Ytoediaepoddonaa
open Go Go.Proofs Go.Eng Go.Run Tab
set_option maxRecDepth 100000
set_option linter.unusedSimpArgs false
set_option linter.unusedVariables false
set_option maxHeartbeats 1000000
theorem app22 {h : Eng.Heap} {er : Env} {ty : TypeId} {m0 : Nat} {x y : Operand} {a b : Option Addr} {len cap m c : Nat} {xs ys : List Int} {K : Value → Eng.Heap → Prop} (hx : ev er x = .slice a len cap) (hy : ev er y = .slice b m c) (O : OwnI m0 h 3 a len cap xs) (h0h : m0 ≤ h.size) (I : IntsV h b m ys) (hb : len + m ≤ 100000)
    (H : ∀ a' cap' h', OwnI m0 h' 3 a' (len + m) cap' (xs ++ ys) → App h h' a a' → K (.slice a' (len + m) cap') h') : opSem Try.prog (.call ⟨.builtin .append, #[x, y], #[22, 22]⟩) ty er h K :=
  append_intsT Try.underlying22 Try.underlying22 inf3 sz3 (by rw [by3]; decide) zero3 hx hy O h0h I hb H
def yis (xs : List Int) : List (List Value) := xs.map fun x => [.int .i64 x]
theorem values92 (lo bx n c : Nat) (a : Option Addr) (xs : List Int) (h : Eng.Heap) (hn : n = xs.length) (hl : n ≤ 1000000) (J : Nat → Eng.Heap → Prop) (E : Eng.Heap → Prop)
    (hx : ∀ i h', J i h' → h'[bx]? = some (.cells #[.slice a n c] 22) ∧ IntsV h' a n xs) (h0 : J 0 h)
    (step : ∀ i h' vs, (yis xs)[i]? = some vs → J i h' → CallY Try.prog (.func (.yield lo) #[] #[]) vs h' (fun v h'' => (v = .bool true ∧ J (i + 1) h'') ∨ (v = .bool false ∧ E h''))) :
    CallsH Try.prog 92 (#[] ++ #[.func (.yield lo) #[] #[]] ++ #[.pointer (some ⟨bx, 0, none⟩)]) h (fun v h' => J (yis xs).length h' ∨ E h') := by
  simp only [Array.append_empty, Array.empty_append, List.append_toArray, List.cons_append, List.nil_append]
  refine CallsH_of_exec Try.func92 rfl bod92 ?_
  simp only [Try.ntmps92, Try.results92, coreS, stK_some, splice, Value.cells, Value.oneCell', Nat.reduceAdd, Nat.reduceSub, Nat.reduceMul, Nat.reduceLeDiff, Int.reduceEq, Nat.reduceEqDiff, agg22, agg3, by3, inf22, inf3, sz22, sz3, Try.underlying22]
  simp only [(hx 0 h h0).1, coreS, Value.cells, Value.oneCell', Nat.reduceAdd, Nat.reduceSub, Nat.reduceMul, Nat.reduceLeDiff, Int.reduceEq, Nat.reduceEqDiff, agg22, agg3, by3, inf22, inf3, sz22, sz3, Try.underlying22]
  refine WP_loopI [4, 7, 8, 9, 10, 11, 12, 13, 14, 15] (fun g h' => ∃ i : Nat, i ≤ n ∧ g 7 = .int .i64 i ∧ J i h') (fun g _ => match g 7 with | .int _ m => n - m.toNat | _ => 0) ?_ ?_
  · exact ⟨0, by omega, rfl, h0⟩
  · rintro g h' ⟨i, hi, hg, hJ⟩
    have hv := (hx i h' hJ).2
    simp only [hg, coreS, Value.cells, Value.oneCell', Nat.reduceAdd, Nat.reduceSub, Nat.reduceMul, Nat.reduceLeDiff, Int.reduceEq, Nat.reduceEqDiff, agg22, agg3, by3, inf22, inf3, sz22, sz3, Try.underlying22]
    refine ⟨fun hlt => ?_, fun hge => ?_⟩
    · have hil : i < xs.length := by omega
      simp only [hv.cell hil, coreS, Value.cells, Value.oneCell', Nat.reduceAdd, Nat.reduceSub, Nat.reduceMul, Nat.reduceLeDiff, Int.reduceEq, Nat.reduceEqDiff, scopeK_normal, scopeK_ret, scopeK_exit, callV_yield, binds_cons, binds_nil, agg22, agg3, by3, inf22, inf3, sz22, sz3, Try.underlying22]
      refine ⟨⟨by omega, by omega⟩, hv.isSome (by omega), ?_⟩
      have hst := step i h' [.int .i64 (xs.getD i 0)] (by simp [yis, List.getD, List.getElem?_eq_getElem hil]) hJ
      refine hst.run1 rfl rfl ?_
      rintro v h2 (⟨rfl, hJ2⟩ | ⟨rfl, hE⟩)
      · simp only [coreS, Value.cells, Value.oneCell', Nat.reduceAdd, Nat.reduceSub, Nat.reduceMul, Nat.reduceLeDiff, Int.reduceEq, Nat.reduceEqDiff, scopeK_normal, scopeK_ret, scopeK_exit, callV_yield, binds_cons, binds_nil, agg22, agg3, by3, inf22, inf3, sz22, sz3, Try.underlying22]
        refine ⟨by rw [inK_i64]; omega, roundK_mk (by kernel_rfl) ⟨i + 1, by omega, rfl, hJ2⟩ ?_⟩
        show n - ((i : Int) + 1).toNat < n - (i : Int).toNat
        omega
      · simp only [coreS, Value.cells, Value.oneCell', Nat.reduceAdd, Nat.reduceSub, Nat.reduceMul, Nat.reduceLeDiff, Int.reduceEq, Nat.reduceEqDiff, scopeK_normal, scopeK_ret, scopeK_exit, callV_yield, binds_cons, binds_nil, agg22, agg3, by3, inf22, inf3, sz22, sz3, Try.underlying22]
        exact .inr hE
    · have : i = n := by omega
      subst this
      left
      have e : (yis xs).length = xs.length := by simp [yis]
      rw [e, ← hn]
      exact hJ
theorem values_seq {bx n c : Nat} {a : Option Addr} {xs : List Int} (hn : n = xs.length) (hl : n ≤ 1000000) :
    SeqOf Try.prog (.func (.func 92) #[] #[.pointer (some ⟨bx, 0, none⟩)]) (fun h' => h'[bx]? = some (.cells #[.slice a n c] 22) ∧ IntsV h' a n xs) (yis xs) :=
  ⟨92, _, _, rfl, fun lo h0 J E hx hJ step => values92 lo bx n c a xs h0 hn hl J E hx hJ step⟩
theorem values75 (a : Option Addr) (n c : Nat) (h : Eng.Heap) : CallsH Try.prog 75 #[.slice a n c] h (fun v h' => v = .func (.func 92) #[] #[.pointer (some ⟨h.size, 0, none⟩)] ∧ h' = h.push (.cells #[.slice a n c] 22)) := by
  refine CallsH_of_exec Try.func75 rfl bod75 ?_
  simp only [Try.ntmps75, Try.results75, coreS, stK_some, splice, Value.cells, Value.oneCell', Nat.reduceAdd, Nat.reduceSub, Nat.reduceMul, Nat.reduceLeDiff, Int.reduceEq, Nat.reduceEqDiff]
theorem appendSeq93 (v : Value) (xs : List Int) {F : Eng.Heap → Prop} (h : Eng.Heap) (hseq : SeqOf Try.prog v F (yis xs)) (hl : xs.length ≤ 1000) (hF : ∀ h', Ext h h' → F h') :
    CallsH Try.prog 93 #[.slice none 0 0, v] h (fun v' h' => Ext h h' ∧ NewI h.size h' 3 v' xs) := by
  refine CallsH_of_exec Try.func93 rfl bod93 ?_
  simp only [Try.ntmps93, Try.results93, coreS, stK_some, splice, Value.cells, Value.oneCell', Nat.reduceAdd, Nat.reduceSub, Nat.reduceMul, Nat.reduceLeDiff, Int.reduceEq, Nat.reduceEqDiff, agg22, by3, inf22, inf3, sz22, sz3, zero3, Try.underlying22]
  obtain ⟨hh, hhe⟩ : ∃ hh, hh = h.push (.cells (Value.slice none 0 0).cells 22) := ⟨_, rfl⟩
  refine WP_rangeI (xss := yis xs) rfl hseq (fun i h' => Ext h h' ∧ i ≤ xs.length ∧ h'[h.size + 1]? = some (.deferred (some [])) ∧ ∃ a cap, h'[h.size]? = some (.cells #[.slice a i cap] 22) ∧ OwnI (h.size + 3) h' 3 a i cap (xs.take i)) (fun _ _ => False) ?_ ?_ ?_ ?_ ?_ ?_ ?_ ?_
  · intro vs hvs
    simp only [yis, List.mem_map] at hvs
    obtain ⟨_, _, rfl⟩ := hvs
    rfl
  · exact fun i h' H => hF _ H.1
  · rintro i h1 h2 ⟨x, hi, h3, a, cap, h4, h5⟩ u
    simp only [push_size] at u
    exact ⟨u.ext x (by omega), hi, u.get h3 (by omega), a, cap, u.get h4 (by omega), h5.upd u (by omega)⟩
  · exact fun j h1 h2 H _ => H
  · intro h' x h1 h2
    simp only [push_size] at h1
    exact ⟨x.of_push, by omega, h1, none, 0, x.get push_new, OwnI.nil _ _ _⟩
  · rintro i h' vs o hvs ⟨x, hi, h1, a, cap, h2, h3⟩ ho
    obtain ⟨hil, rfl⟩ : ∃ hil : i < xs.length, vs = [.int .i64 (xs.getD i 0)] := by
      simp only [yis, List.getElem?_map] at hvs
      cases hq : xs[i]? with
      | none => simp [hq] at hvs
      | some y =>
        obtain ⟨hil, hy⟩ := List.getElem?_eq_some_iff.1 hq
        refine ⟨hil, ?_⟩
        simp [hq] at hvs
        simp [List.getD, hq, hvs]
    simp only [push_size] at ho
    simp only [asgI_normal, coreS, Value.cells, Value.oneCell', Nat.reduceAdd, Nat.reduceSub, Nat.reduceMul, Nat.reduceLeDiff, Int.reduceEq, Nat.reduceEqDiff, scopeK_normal, scopeK_ret, scopeK_exit, callV_yield, binds_cons, binds_nil, agg22, by3, inf22, inf3, sz22, sz3, zero3, Try.underlying22]
    refine ⟨ho, fun h4 o2 u4 ho2 => ?_⟩
    have k2 := u4.get h2 (by omega)
    have k1 := u4.get h1 (by omega)
    have k3 := h3.upd u4 (by omega)
    have kx := u4.ext x (by omega)
    clear h1 h2 h3 x u4 ho
    simp only [k2, coreS, Value.cells, Value.oneCell', Nat.reduceAdd, Nat.reduceSub, Nat.reduceMul, Nat.reduceLeDiff, Int.reduceEq, Nat.reduceEqDiff, scopeK_normal, scopeK_ret, scopeK_exit, callV_yield, binds_cons, binds_nil, agg22, by3, inf22, inf3, sz22, sz3, zero3, Try.underlying22]
    have hsz := lt_of_get ho2
    have k3' := k3.ext ((Ext.refl h4).push (.cells #[.int .i64 (xs.getD i 0)] 3))
    refine app22 rfl rfl k3' (by simp; omega) intsV_one (by omega) fun a' cap' h5 O A => ?_
    have q1 := A.upd k3' (push_old k1) (by omega)
    have q2 := A.upd k3' (push_old k2) (by omega)
    have q3 := A.upd k3' (push_old ho2) (by omega)
    have qx := A.extN k3' (kx.push _) (by omega)
    clear A k1 k2 k3 k3' ho2 hsz kx
    simp only [q2, coreS, Value.cells, Value.oneCell', Nat.reduceAdd, Nat.reduceSub, Nat.reduceMul, Nat.reduceLeDiff, Int.reduceEq, Nat.reduceEqDiff, scopeK_normal, scopeK_ret, scopeK_exit, callV_yield, binds_cons, binds_nil, agg22, by3, inf22, inf3, sz22, sz3, zero3, Try.underlying22]
    refine stK_abs q2 (by simp) fun h6 g2 u6 => ?_
    simp only [endI_normal, coreS, Value.cells, Value.oneCell', Nat.reduceAdd, Nat.reduceSub, Nat.reduceMul, Nat.reduceLeDiff, Int.reduceEq, Nat.reduceEqDiff, scopeK_normal, scopeK_ret, scopeK_exit, callV_yield, binds_cons, binds_nil, agg22, by3, inf22, inf3, sz22, sz3, zero3, Try.underlying22]
    refine ⟨u6.get q3 (by omega), u6.ext qx (by omega), hil, u6.get q1 (by omega), a', cap', g2, ?_⟩
    have e : xs.take i ++ [xs.getD i 0] = xs.take (i + 1) := by
      rw [List.take_add_one, List.getElem?_eq_getElem hil, List.getD, List.getElem?_eq_getElem hil]; rfl
    rw [← e]
    exact O.upd u6 (by omega)
  · rintro h' ⟨x, hi, h1, a, cap, h2, h3⟩
    have e : (yis xs).length = xs.length := by simp [yis]
    rw [e] at h2 h3
    simp only [push_size, h2, coreS, Value.cells, Value.oneCell', Nat.reduceAdd, Nat.reduceSub, Nat.reduceMul, Nat.reduceLeDiff, Int.reduceEq, Nat.reduceEqDiff, scopeK_normal, scopeK_ret, scopeK_exit, callV_yield, binds_cons, binds_nil, agg22, by3, inf22, inf3, sz22, sz3, zero3, Try.underlying22]
    refine fin_mark h1 ?_
    simp only [coreS, Value.cells, Value.oneCell', Nat.reduceAdd, Nat.reduceSub, Nat.reduceMul, Nat.reduceLeDiff, Int.reduceEq, Nat.reduceEqDiff, scopeK_normal, scopeK_ret, scopeK_exit, callV_yield, binds_cons, binds_nil, agg22, by3, inf22, inf3, sz22, sz3, zero3, Try.underlying22]
    rw [List.take_of_length_le (Nat.le_refl _)] at h3
    exact ⟨Upd.set.ext x (by omega), a, cap, rfl, (h3.upd Upd.set (by omega)).mono (by omega)⟩
  · exact fun j h' H => H.elim
theorem collect78 (v : Value) (xs : List Int) {F : Eng.Heap → Prop} (h : Eng.Heap) (hseq : SeqOf Try.prog v F (yis xs)) (hl : xs.length ≤ 1000) (hF : ∀ h', Ext h h' → F h') :
    CallsH Try.prog 78 #[v] h (fun v' h' => Ext h h' ∧ NewI h.size h' 3 v' xs) := by
  refine CallsH_of_exec Try.func78 rfl bod78 ?_
  simp only [Try.ntmps78, Try.results78, coreS, stK_some, splice, Value.cells, Value.oneCell', Nat.reduceAdd, Nat.reduceSub, Nat.reduceMul, Nat.reduceLeDiff, Int.reduceEq, Nat.reduceEqDiff]
  refine CallsH.mono (appendSeq93 v xs h hseq hl hF) ?_
  rintro v' h1 ⟨x, N⟩
  simp only [coreS, Value.cells, Value.oneCell', Nat.reduceAdd, Nat.reduceSub, Nat.reduceMul, Nat.reduceLeDiff, Int.reduceEq, Nat.reduceEqDiff]
  exact ⟨x, N⟩
theorem run90 : ∀ n : Nat, n ≤ 12 → ∃ k s, run Pt.pr 1000 90 [.int .u64 n] s0 = .ok (.int .i64 k, s) := by
  intro n h2
  have : n = 0 ∨ n = 1 ∨ n = 2 ∨ n = 3 ∨ n = 4 ∨ n = 5 ∨ n = 6 ∨ n = 7 ∨ n = 8 ∨ n = 9 ∨ n = 10 ∨ n = 11 ∨ n = 12 := by omega
  rcases this with rfl | rfl | rfl | rfl | rfl | rfl | rfl | rfl | rfl | rfl | rfl | rfl | rfl
  · exact ⟨0, rS (run Pt.pr 1000 90 [.int .u64 0] s0), by kernel_rfl⟩
  · exact ⟨1, rS (run Pt.pr 1000 90 [.int .u64 1] s0), by kernel_rfl⟩
  · exact ⟨2, rS (run Pt.pr 1000 90 [.int .u64 2] s0), by kernel_rfl⟩
  · exact ⟨2, rS (run Pt.pr 1000 90 [.int .u64 3] s0), by kernel_rfl⟩
  · exact ⟨3, rS (run Pt.pr 1000 90 [.int .u64 4] s0), by kernel_rfl⟩
  · exact ⟨3, rS (run Pt.pr 1000 90 [.int .u64 5] s0), by kernel_rfl⟩
  · exact ⟨3, rS (run Pt.pr 1000 90 [.int .u64 6] s0), by kernel_rfl⟩
  · exact ⟨3, rS (run Pt.pr 1000 90 [.int .u64 7] s0), by kernel_rfl⟩
  · exact ⟨4, rS (run Pt.pr 1000 90 [.int .u64 8] s0), by kernel_rfl⟩
  · exact ⟨4, rS (run Pt.pr 1000 90 [.int .u64 9] s0), by kernel_rfl⟩
  · exact ⟨4, rS (run Pt.pr 1000 90 [.int .u64 10] s0), by kernel_rfl⟩
  · exact ⟨4, rS (run Pt.pr 1000 90 [.int .u64 11] s0), by kernel_rfl⟩
  · exact ⟨4, rS (run Pt.pr 1000 90 [.int .u64 12] s0), by kernel_rfl⟩
theorem len90 (n : Nat) (h2 : n ≤ 12) (h : Eng.Heap) : CallsH Try.prog 90 #[.int .u64 n] h (fun v h' => (∃ k : Int, v = .int .i64 k) ∧ Ext h h') := by
  obtain ⟨k, s, q1⟩ := run90 n h2
  have := fn_sound Pt.ok (run_sound Pt.ok Pt.lb 1000) (us := [.int .u64 n]) q1 ⟨_, [], rfl, rfl, rfl⟩ (Sim.zero h)
  refine this.mono ?_
  rintro v h' ⟨ι', g1, g2, g3⟩
  exact ⟨⟨k, g3⟩, ⟨g1.size, fun r hr => g1.old r hr fun b x hx => by cases hx⟩⟩
theorem pdq106 (g c n : Nat) (k : Int) (xs : List Int) (tl : List Value) (h : Eng.Heap) (hb : h[g]? = some (.cells (ints xs ++ tl).toArray 3)) (hn : n = xs.length) (hl : n ≤ 12) :
    CallsH Try.prog 106 #[.slice (some ⟨g, 0, none⟩) n c, .int .i64 0, .int .i64 n, .int .i64 k] h (fun v h' => v = .tuple #[] ∧ Upd h h' g ∧ ∃ ys, ys.Perm xs ∧ srt ys ∧ h'[g]? = some (.cells (ints ys ++ tl).toArray 3)) := by
  refine CallsH_of_exec Try.func106 rfl bod106 ?_
  simp only [Try.ntmps106, Try.results106, coreS, stK_some, splice, Value.cells, Value.oneCell', Nat.reduceAdd, Nat.reduceSub, Nat.reduceMul, Nat.reduceLeDiff, Int.reduceEq, Nat.reduceEqDiff, agg3, by3, inf3, sz3, Try.underlying22]
  refine WP_loopI [1, 2, 3, 8, 9, 10, 11, 12, 13, 14, 15, 16, 17, 18, 19, 20, 21, 22, 23, 24, 25, 26, 27, 28, 29, 30, 31, 32, 33, 34, 35, 36, 37, 38, 39, 40, 41, 42, 43, 44, 45, 46, 47, 48, 49, 50, 51, 52, 53, 54, 55, 56, 57, 58, 59, 60, 61, 62, 63, 64, 65, 66, 67, 68, 69, 70, 71, 72, 73, 74, 75, 76, 77, 78, 79, 80, 81, 82, 83, 84, 85, 86, 87, 88, 89, 90, 91, 92, 93, 94, 95, 96, 97, 98, 99, 100, 101, 102, 103, 104, 105, 106, 107, 108, 109, 110, 111, 112, 113, 114, 115, 116, 117, 118, 119, 120, 121, 122, 123, 124, 125, 126, 127, 128, 129, 130, 131, 132, 133] (fun e h' => h' = h ∧ e 1 = .int .i64 0 ∧ e 2 = .int .i64 n) (fun _ _ => 0) ⟨rfl, rfl, rfl⟩ ?_
  rintro e h' ⟨rfl, h1, h2⟩
  have e0 : (n : Int) - 0 = n := by omega
  have e1 : (n : Int) ≤ 12 := by omega
  simp only [h1, h2, e0, e1, decide_true, coreS, Value.cells, Value.oneCell', Nat.reduceAdd, Nat.reduceSub, Nat.reduceMul, Nat.reduceLeDiff, Int.reduceEq, Nat.reduceEqDiff, agg3, by3, inf3, sz3, Try.underlying22]
  refine ⟨by rw [inK_i64]; omega, ?_⟩
  refine CallsH.mono (isort112 g c n xs tl h' hb hn (by omega)) ?_
  rintro v h3 ⟨rfl, H⟩
  simp only [coreS, Value.cells, Value.oneCell', Nat.reduceAdd, Nat.reduceSub, Nat.reduceMul, Nat.reduceLeDiff, Int.reduceEq, Nat.reduceEqDiff, agg3, by3, inf3, sz3, Try.underlying22]
  exact H
theorem sort91 (g c n : Nat) (xs : List Int) (tl : List Value) (h : Eng.Heap) (hb : h[g]? = some (.cells (ints xs ++ tl).toArray 3)) (hn : n = xs.length) (hl : n ≤ 12) :
    CallsH Try.prog 91 #[.slice (some ⟨g, 0, none⟩) n c] h (fun v h' => v = .tuple #[] ∧ ∃ h1, Ext h h1 ∧ Upd h1 h' g ∧ ∃ ys, ys.Perm xs ∧ srt ys ∧ h'[g]? = some (.cells (ints ys ++ tl).toArray 3)) := by
  refine CallsH_of_exec Try.func91 rfl bod91 ?_
  simp only [Try.ntmps91, Try.results91, coreS, stK_some, splice, Value.cells, Value.oneCell', Nat.reduceAdd, Nat.reduceSub, Nat.reduceMul, Nat.reduceLeDiff, Int.reduceEq, Nat.reduceEqDiff, Try.underlying3, Try.underlying22, Try.underlying114]
  refine ⟨by rw [inK_u64]; omega, ?_⟩
  refine CallsH.mono (len90 n hl h) ?_
  rintro v h1 ⟨⟨k, rfl⟩, x1⟩
  simp only [coreS, Value.cells, Value.oneCell', Nat.reduceAdd, Nat.reduceSub, Nat.reduceMul, Nat.reduceLeDiff, Int.reduceEq, Nat.reduceEqDiff, Try.underlying3, Try.underlying22, Try.underlying114]
  refine CallsH.mono (pdq106 g c n k xs tl h1 (x1.get hb) hn hl) ?_
  rintro v h2 ⟨rfl, u, ys, H⟩
  simp only [coreS, Value.cells, Value.oneCell', Nat.reduceAdd, Nat.reduceSub, Nat.reduceMul, Nat.reduceLeDiff, Int.reduceEq, Nat.reduceEqDiff, Try.underlying3, Try.underlying22, Try.underlying114]
  exact ⟨h1, x1, u, ys, H⟩
theorem isort0 (c : Nat) (h : Eng.Heap) : CallsH Try.prog 112 #[.slice none 0 c, .int .i64 0, .int .i64 ((0 : Nat) : Int)] h (fun v h' => v = .tuple #[] ∧ h' = h) := by
  refine CallsH_of_exec Try.func112 rfl bod112 ?_
  simp only [Try.ntmps112, Try.results112, coreS, stK_some, splice, Value.cells, Value.oneCell', Nat.reduceAdd, Nat.reduceSub, Nat.reduceMul, Nat.reduceLeDiff, Int.reduceEq, Nat.reduceEqDiff, agg3, by3, inf3, sz3, Try.underlying22]
  refine ⟨by rw [inK_i64]; omega, ?_⟩
  refine WP_loopI [6, 7, 10, 11, 12, 13, 14, 15, 16, 17, 18, 19, 20, 21, 22, 23, 24, 25, 26, 27, 28, 29, 30, 31, 32, 33, 34, 35, 36, 37, 38, 39, 40, 41, 42, 43, 44, 45, 46, 47, 48] (fun e h' => h' = h ∧ e 6 = .int .i64 1) (fun e _ => 0) ⟨rfl, rfl⟩ ?_
  rintro e h' ⟨rfl, he⟩
  have f0 : ¬ ((1 : Int) < ((0 : Nat) : Int)) := by omega
  simp only [he, f0, decide_false, coreS, Value.cells, Value.oneCell', Nat.reduceAdd, Nat.reduceSub, Nat.reduceMul, Nat.reduceLeDiff, Int.reduceEq, Nat.reduceEqDiff, agg3, by3, inf3, sz3, Try.underlying22]
theorem pdq0 (c : Nat) (k : Int) (h : Eng.Heap) : CallsH Try.prog 106 #[.slice none 0 c, .int .i64 0, .int .i64 ((0 : Nat) : Int), .int .i64 k] h (fun v h' => v = .tuple #[] ∧ h' = h) := by
  refine CallsH_of_exec Try.func106 rfl bod106 ?_
  simp only [Try.ntmps106, Try.results106, coreS, stK_some, splice, Value.cells, Value.oneCell', Nat.reduceAdd, Nat.reduceSub, Nat.reduceMul, Nat.reduceLeDiff, Int.reduceEq, Nat.reduceEqDiff, agg3, by3, inf3, sz3, Try.underlying22]
  refine WP_loopI [1, 2, 3, 8, 9, 10, 11, 12, 13, 14, 15, 16, 17, 18, 19, 20, 21, 22, 23, 24, 25, 26, 27, 28, 29, 30, 31, 32, 33, 34, 35, 36, 37, 38, 39, 40, 41, 42, 43, 44, 45, 46, 47, 48, 49, 50, 51, 52, 53, 54, 55, 56, 57, 58, 59, 60, 61, 62, 63, 64, 65, 66, 67, 68, 69, 70, 71, 72, 73, 74, 75, 76, 77, 78, 79, 80, 81, 82, 83, 84, 85, 86, 87, 88, 89, 90, 91, 92, 93, 94, 95, 96, 97, 98, 99, 100, 101, 102, 103, 104, 105, 106, 107, 108, 109, 110, 111, 112, 113, 114, 115, 116, 117, 118, 119, 120, 121, 122, 123, 124, 125, 126, 127, 128, 129, 130, 131, 132, 133] (fun e h' => h' = h ∧ e 1 = .int .i64 0 ∧ e 2 = .int .i64 ((0 : Nat) : Int)) (fun _ _ => 0) ⟨rfl, rfl, rfl⟩ ?_
  rintro e h' ⟨rfl, h1, h2⟩
  have e0 : ((0 : Nat) : Int) - 0 = 0 := by omega
  have e1 : (0 : Int) ≤ 12 := by omega
  simp only [h1, h2, e0, e1, decide_true, coreS, Value.cells, Value.oneCell', Nat.reduceAdd, Nat.reduceSub, Nat.reduceMul, Nat.reduceLeDiff, Int.reduceEq, Nat.reduceEqDiff, agg3, by3, inf3, sz3, Try.underlying22]
  refine ⟨by rw [inK_i64]; omega, ?_⟩
  refine CallsH.mono (isort0 c h') ?_
  rintro v h3 ⟨rfl, rfl⟩
  simp only [coreS, Value.cells, Value.oneCell', Nat.reduceAdd, Nat.reduceSub, Nat.reduceMul, Nat.reduceLeDiff, Int.reduceEq, Nat.reduceEqDiff, agg3, by3, inf3, sz3, Try.underlying22]
theorem sort0 (c : Nat) (h : Eng.Heap) : CallsH Try.prog 91 #[.slice none 0 c] h (fun v h' => v = .tuple #[] ∧ Ext h h') := by
  refine CallsH_of_exec Try.func91 rfl bod91 ?_
  simp only [Try.ntmps91, Try.results91, coreS, stK_some, splice, Value.cells, Value.oneCell', Nat.reduceAdd, Nat.reduceSub, Nat.reduceMul, Nat.reduceLeDiff, Int.reduceEq, Nat.reduceEqDiff, Try.underlying3, Try.underlying22, Try.underlying114]
  refine ⟨by rw [inK_u64]; omega, ?_⟩
  refine CallsH.mono (len90 0 (by omega) h) ?_
  rintro v h1 ⟨⟨k, rfl⟩, x1⟩
  simp only [coreS, Value.cells, Value.oneCell', Nat.reduceAdd, Nat.reduceSub, Nat.reduceMul, Nat.reduceLeDiff, Int.reduceEq, Nat.reduceEqDiff, Try.underlying3, Try.underlying22, Try.underlying114]
  refine CallsH.mono (pdq0 c k h1) ?_
  rintro v h2 ⟨rfl, rfl⟩
  simp only [coreS, Value.cells, Value.oneCell', Nat.reduceAdd, Nat.reduceSub, Nat.reduceMul, Nat.reduceLeDiff, Int.reduceEq, Nat.reduceEqDiff, Try.underlying3, Try.underlying22, Try.underlying114]
  exact x1
/-- The numbers of a sequence, sorted. -/
theorem sorted74 (v : Value) (xs : List Int) {F : Eng.Heap → Prop} (h : Eng.Heap) (hseq : SeqOf Try.prog v F (yis xs)) (hl : xs.length ≤ 12) (hF : ∀ h', Ext h h' → F h') :
    CallsH Try.prog 74 #[v] h (fun v' h' => Ext h h' ∧ ∃ ys, ys.Perm xs ∧ srt ys ∧ NewI h.size h' 3 v' ys) := by
  refine CallsH_of_exec Try.func74 rfl bod74 ?_
  simp only [Try.ntmps74, Try.results74, coreS, stK_some, splice, Value.cells, Value.oneCell', Nat.reduceAdd, Nat.reduceSub, Nat.reduceMul, Nat.reduceLeDiff, Int.reduceEq, Nat.reduceEqDiff]
  refine CallsH.mono (collect78 v xs h hseq (by omega) hF) ?_
  rintro v' h1 ⟨x1, a, cap, rfl, O⟩
  simp only [coreS, Value.cells, Value.oneCell', Nat.reduceAdd, Nat.reduceSub, Nat.reduceMul, Nat.reduceLeDiff, Int.reduceEq, Nat.reduceEqDiff]
  by_cases h0 : 0 < xs.length
  · obtain ⟨g, tl, rfl, hg, hb, hc, hc2, _⟩ := O.block h0
    refine CallsH.mono (sort91 g cap xs.length xs tl h1 hb rfl hl) ?_
    rintro v h2 ⟨rfl, h3, x3, u3, ys, hp, hsr, hb3⟩
    simp only [coreS, Value.cells, Value.oneCell', Nat.reduceAdd, Nat.reduceSub, Nat.reduceMul, Nat.reduceLeDiff, Int.reduceEq, Nat.reduceEqDiff]
    have hlen := hp.length_eq
    refine ⟨u3.ext (x1.trans x3) hg, ys, hp, hsr, some ⟨g, 0, none⟩, cap, by rw [hlen], ?_⟩
    exact OwnI.of_block hg hb3 (by omega) (by omega)
  · have hx0 : xs = [] := List.length_eq_zero_iff.1 (by omega)
    subst hx0
    rcases O.ok with ⟨rfl, _, rfl⟩ | ⟨g, cur, rfl, hg, hb, hc, hcc, _⟩
    · refine CallsH.mono (sort0 0 h1) ?_
      rintro v h2 ⟨rfl, x2⟩
      simp only [coreS, Value.cells, Value.oneCell', Nat.reduceAdd, Nat.reduceSub, Nat.reduceMul, Nat.reduceLeDiff, Int.reduceEq, Nat.reduceEqDiff]
      exact ⟨x1.trans x2, [], List.Perm.refl _, List.Pairwise.nil, none, 0, rfl, OwnI.nil _ _ _⟩
    · have hb' : h1[g]? = some (.cells (ints [] ++ cur.toList).toArray 3) := by simpa [ints] using hb
      refine CallsH.mono (sort91 g cap 0 [] cur.toList h1 hb' rfl (by omega)) ?_
      rintro v h2 ⟨rfl, h3, x3, u3, ys, hp, hsr, hb3⟩
      simp only [coreS, Value.cells, Value.oneCell', Nat.reduceAdd, Nat.reduceSub, Nat.reduceMul, Nat.reduceLeDiff, Int.reduceEq, Nat.reduceEqDiff]
      have hy := hp.eq_nil
      subst hy
      refine ⟨u3.ext (x1.trans x3) hg, [], List.Perm.refl _, hsr, some ⟨g, 0, none⟩, cap, rfl, ?_⟩
      exact OwnI.of_block hg hb3 (by simpa using hc) (by simp)
end Go.Proofs.Ytoediaepoddonaa
