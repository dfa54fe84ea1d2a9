/- Walks: Values, AppendSeq, Collect, Sorted. -/
import Derived.Test.YtmgkeeefbfefgaaM8
namespace Go.Proofs.Ytmgkeeefbfefgaa
open Go Go.Proofs Go.Eng Go.Run Tab
set_option maxRecDepth 100000
set_option linter.unusedSimpArgs false
set_option linter.unusedVariables false
set_option maxHeartbeats 1000000
set_option linter.defProp false
def M9Fs87 := (And.intro (And.intro (And.intro @agg25 @agg3) (And.intro @by3 @inf25)) (And.intro (And.intro @inf3 @sz25) (And.intro @sz3 @Try.underlying25)))
def M9Fs99 := (And.intro (And.intro (And.intro @agg25 @by3) (And.intro @inf25 @inf3)) (And.intro (And.intro @sz25 @sz3) (And.intro @zero3 @Try.underlying25)))
theorem app25 {h : Eng.Heap} {er : Env} {ty : TypeId} {m0 : Nat} {x y : Operand} {a b : Option Addr} {len cap m c : Nat} {xs ys : List Int} {K : Value → Eng.Heap → Prop} (hx : ev er x = .slice a len cap) (hy : ev er y = .slice b m c) (O : OwnI m0 h 3 a len cap xs) (h0h : m0 ≤ h.size) (I : IntsV h b m ys) (hb : len + m ≤ 100000)
    (H : ∀ a' cap' h', OwnI m0 h' 3 a' (len + m) cap' (xs ++ ys) → App h h' a a' → K (.slice a' (len + m) cap') h') : opSem Try.prog (.call ⟨.builtin .append, #[x, y], #[25, 25]⟩) ty er h K :=
  append_intsT Try.underlying25 Try.underlying25 inf3 sz3 (by rw [by3]; decide) zero3 hx hy O h0h I hb H
def yis (xs : List Int) : List (List Value) := xs.map fun x => [.int .i64 x]
theorem values87 (lo bx n c : Nat) (a : Option Addr) (xs : List Int) (h : Eng.Heap) (hn : n = xs.length) (hl : n ≤ 1000000) (J : Nat → Eng.Heap → Prop) (E : Eng.Heap → Prop)
    (hx : ∀ i h', J i h' → h'[bx]? = some (.cells #[.slice a n c] 25) ∧ IntsV h' a n xs) (h0 : J 0 h)
    (step : ∀ i h' vs, (yis xs)[i]? = some vs → J i h' → CallY Try.prog (.func (.yield lo) #[] #[]) vs h' (fun v h'' => (v = .bool true ∧ J (i + 1) h'') ∨ (v = .bool false ∧ E h''))) :
    CallsH Try.prog 87 (#[] ++ #[.func (.yield lo) #[] #[]] ++ #[.pointer (some ⟨bx, 0, none⟩)]) h (fun v h' => J (yis xs).length h' ∨ E h') := by
  simp only [Array.append_empty, Array.empty_append, List.append_toArray, List.cons_append, List.nil_append]
  (refine CallsH_of_exec Try.func87 rfl bod87 ?_; simp only [Try.ntmps87, Try.results87, coreS, stK_some, splice, Value.cells, Value.oneCell', Nat.reduceAdd, Nat.reduceSub, Nat.reduceMul, Nat.reduceLeDiff, Int.reduceEq, Nat.reduceEqDiff, M9Fs87])
  simp only [(hx 0 h h0).1, coreS, Value.cells, Value.oneCell', Nat.reduceAdd, Nat.reduceSub, Nat.reduceMul, Nat.reduceLeDiff, Int.reduceEq, Nat.reduceEqDiff, M9Fs87]
  refine WP_loopI [4, 7, 8, 9, 10, 11, 12, 13, 14, 15] (fun g h' => ∃ i : Nat, i ≤ n ∧ g 7 = .int .i64 i ∧ J i h') (fun g _ => match g 7 with | .int _ m => n - m.toNat | _ => 0) ?_ ?_
  · exact ⟨0, by omega, rfl, h0⟩
  · rintro g h' ⟨i, hi, hg, hJ⟩
    have hv := (hx i h' hJ).2
    simp only [hg, coreS, Value.cells, Value.oneCell', Nat.reduceAdd, Nat.reduceSub, Nat.reduceMul, Nat.reduceLeDiff, Int.reduceEq, Nat.reduceEqDiff, M9Fs87]
    refine ⟨fun hlt => ?_, fun hge => ?_⟩
    · have hil : i < xs.length := by omega
      simp only [hv.cell hil, coreS, Value.cells, Value.oneCell', Nat.reduceAdd, Nat.reduceSub, Nat.reduceMul, Nat.reduceLeDiff, Int.reduceEq, Nat.reduceEqDiff, scopeK_normal, scopeK_ret, scopeK_exit, callV_yield, binds_cons, binds_nil, M9Fs87]
      refine ⟨⟨by omega, by omega⟩, hv.isSome (by omega), ?_⟩
      have hst := step i h' [.int .i64 (xs.getD i 0)] (by simp [yis, List.getD, List.getElem?_eq_getElem hil]) hJ
      refine hst.run1 rfl rfl ?_
      rintro v h2 (⟨rfl, hJ2⟩ | ⟨rfl, hE⟩)
      · simp only [coreS, Value.cells, Value.oneCell', Nat.reduceAdd, Nat.reduceSub, Nat.reduceMul, Nat.reduceLeDiff, Int.reduceEq, Nat.reduceEqDiff, scopeK_normal, scopeK_ret, scopeK_exit, callV_yield, binds_cons, binds_nil, M9Fs87]
        refine ⟨by rw [inK_i64]; omega, roundK_mk (by kernel_rfl) ⟨i + 1, by omega, rfl, hJ2⟩ ?_⟩
        show n - ((i : Int) + 1).toNat < n - (i : Int).toNat
        omega
      · simp only [coreS, Value.cells, Value.oneCell', Nat.reduceAdd, Nat.reduceSub, Nat.reduceMul, Nat.reduceLeDiff, Int.reduceEq, Nat.reduceEqDiff, scopeK_normal, scopeK_ret, scopeK_exit, callV_yield, binds_cons, binds_nil, M9Fs87]
        exact .inr hE
    · have : i = n := by omega
      subst this
      left
      have e : (yis xs).length = xs.length := by simp [yis]
      rw [e, ← hn]
      exact hJ
theorem values_seq {bx n c : Nat} {a : Option Addr} {xs : List Int} (hn : n = xs.length) (hl : n ≤ 1000000) :
    SeqOf Try.prog (.func (.func 87) #[] #[.pointer (some ⟨bx, 0, none⟩)]) (fun h' => h'[bx]? = some (.cells #[.slice a n c] 25) ∧ IntsV h' a n xs) (yis xs) :=
  ⟨87, _, _, rfl, fun lo h0 J E hx hJ step => values87 lo bx n c a xs h0 hn hl J E hx hJ step⟩
theorem values55 (a : Option Addr) (n c : Nat) (h : Eng.Heap) : CallsH Try.prog 55 #[.slice a n c] h (fun v h' => v = .func (.func 87) #[] #[.pointer (some ⟨h.size, 0, none⟩)] ∧ h' = h.push (.cells #[.slice a n c] 25)) := by
  (refine CallsH_of_exec Try.func55 rfl bod55 ?_; simp only [Try.ntmps55, Try.results55, coreS, stK_some, splice, Value.cells, Value.oneCell', Nat.reduceAdd, Nat.reduceSub, Nat.reduceMul, Nat.reduceLeDiff, Int.reduceEq, Nat.reduceEqDiff])
theorem appendSeq99 (v : Value) (xs : List Int) {F : Eng.Heap → Prop} (h : Eng.Heap) (hseq : SeqOf Try.prog v F (yis xs)) (hl : xs.length ≤ 1000) (hF : ∀ h', Ext h h' → F h') :
    CallsH Try.prog 99 #[.slice none 0 0, v] h (fun v' h' => Ext h h' ∧ NewI h.size h' 3 v' xs) := by
  (refine CallsH_of_exec Try.func99 rfl bod99 ?_; simp only [Try.ntmps99, Try.results99, coreS, stK_some, splice, Value.cells, Value.oneCell', Nat.reduceAdd, Nat.reduceSub, Nat.reduceMul, Nat.reduceLeDiff, Int.reduceEq, Nat.reduceEqDiff, M9Fs99])
  obtain ⟨hh, hhe⟩ : ∃ hh, hh = h.push (.cells (Value.slice none 0 0).cells 25) := ⟨_, rfl⟩
  refine WP_rangeI (xss := yis xs) rfl hseq (fun i h' => Ext h h' ∧ i ≤ xs.length ∧ h'[h.size + 1]? = some (.deferred (some [])) ∧ ∃ a cap, h'[h.size]? = some (.cells #[.slice a i cap] 25) ∧ OwnI (h.size + 3) h' 3 a i cap (xs.take i)) (fun _ _ => False) ?_ ?_ ?_ ?_ ?_ ?_ ?_ ?_
  · intro vs hvs
    simp only [yis, List.mem_map] at hvs
    obtain ⟨_, _, rfl⟩ := hvs
    rfl
  · exact fun i h' H => hF _ H.1
  · rintro i h1 h2 ⟨x, hi, h3, a, cap, h4, h5⟩ u
    simp only [push_size] at u
    exact ⟨u.ext x (by omega), hi, u.get h3 (by omega), a, cap, u.get h4 (by omega), h5.upd u (by omega)⟩
  · exact fun j h1 h2 H _ => H
  · intro h' x h1 h2
    simp only [push_size] at h1
    exact ⟨x.of_push, by omega, h1, none, 0, x.get push_new, OwnI.nil _ _ _⟩
  · rintro i h' vs o hvs ⟨x, hi, h1, a, cap, h2, h3⟩ ho
    obtain ⟨hil, rfl⟩ : ∃ hil : i < xs.length, vs = [.int .i64 (xs.getD i 0)] := by
      simp only [yis, List.getElem?_map] at hvs
      cases hq : xs[i]? with
      | none => simp [hq] at hvs
      | some y =>
        obtain ⟨hil, hy⟩ := List.getElem?_eq_some_iff.1 hq
        refine ⟨hil, ?_⟩
        simp [hq] at hvs
        simp [List.getD, hq, hvs]
    simp only [push_size] at ho
    simp only [asgI_normal, coreS, Value.cells, Value.oneCell', Nat.reduceAdd, Nat.reduceSub, Nat.reduceMul, Nat.reduceLeDiff, Int.reduceEq, Nat.reduceEqDiff, scopeK_normal, scopeK_ret, scopeK_exit, callV_yield, binds_cons, binds_nil, M9Fs99]
    refine ⟨ho, fun h4 o2 u4 ho2 => ?_⟩
    have k2 := u4.get h2 (by omega)
    have k1 := u4.get h1 (by omega)
    have k3 := h3.upd u4 (by omega)
    have kx := u4.ext x (by omega)
    clear h1 h2 h3 x u4 ho
    simp only [k2, coreS, Value.cells, Value.oneCell', Nat.reduceAdd, Nat.reduceSub, Nat.reduceMul, Nat.reduceLeDiff, Int.reduceEq, Nat.reduceEqDiff, scopeK_normal, scopeK_ret, scopeK_exit, callV_yield, binds_cons, binds_nil, M9Fs99]
    have hsz := lt_of_get ho2
    have k3' := k3.ext ((Ext.refl h4).push (.cells #[.int .i64 (xs.getD i 0)] 3))
    refine app25 rfl rfl k3' (by simp; omega) (intsV_one push_new) (by omega) fun a' cap' h5 O A => ?_
    have q1 := A.upd k3' (push_old k1) (by omega)
    have q2 := A.upd k3' (push_old k2) (by omega)
    have q3 := A.upd k3' (push_old ho2) (by omega)
    have qx := A.extN k3' (kx.push _) (by omega)
    clear A k1 k2 k3 k3' ho2 hsz kx
    simp only [q2, coreS, Value.cells, Value.oneCell', Nat.reduceAdd, Nat.reduceSub, Nat.reduceMul, Nat.reduceLeDiff, Int.reduceEq, Nat.reduceEqDiff, scopeK_normal, scopeK_ret, scopeK_exit, callV_yield, binds_cons, binds_nil, M9Fs99]
    refine stK_abs q2 (by simp) fun h6 g2 u6 => ?_
    simp only [endI_normal, coreS, Value.cells, Value.oneCell', Nat.reduceAdd, Nat.reduceSub, Nat.reduceMul, Nat.reduceLeDiff, Int.reduceEq, Nat.reduceEqDiff, scopeK_normal, scopeK_ret, scopeK_exit, callV_yield, binds_cons, binds_nil, M9Fs99]
    refine ⟨u6.get q3 (by omega), u6.ext qx (by omega), hil, u6.get q1 (by omega), a', cap', g2, ?_⟩
    have e : xs.take i ++ [xs.getD i 0] = xs.take (i + 1) := by
      rw [List.take_add_one, List.getElem?_eq_getElem hil, List.getD, List.getElem?_eq_getElem hil]; rfl
    rw [← e]
    exact O.upd u6 (by omega)
  · rintro h' ⟨x, hi, h1, a, cap, h2, h3⟩
    have e : (yis xs).length = xs.length := by simp [yis]
    rw [e] at h2 h3
    simp only [push_size, h2, coreS, Value.cells, Value.oneCell', Nat.reduceAdd, Nat.reduceSub, Nat.reduceMul, Nat.reduceLeDiff, Int.reduceEq, Nat.reduceEqDiff, scopeK_normal, scopeK_ret, scopeK_exit, callV_yield, binds_cons, binds_nil, M9Fs99]
    refine fin_mark h1 ?_
    simp only [coreS, Value.cells, Value.oneCell', Nat.reduceAdd, Nat.reduceSub, Nat.reduceMul, Nat.reduceLeDiff, Int.reduceEq, Nat.reduceEqDiff, scopeK_normal, scopeK_ret, scopeK_exit, callV_yield, binds_cons, binds_nil, M9Fs99]
    rw [List.take_of_length_le (Nat.le_refl _)] at h3
    exact ⟨Upd.set.ext x (by omega), a, cap, rfl, (h3.upd Upd.set (by omega)).mono (by omega)⟩
  · exact fun j h' H => H.elim
theorem collect86 (v : Value) (xs : List Int) {F : Eng.Heap → Prop} (h : Eng.Heap) (hseq : SeqOf Try.prog v F (yis xs)) (hl : xs.length ≤ 1000) (hF : ∀ h', Ext h h' → F h') :
    CallsH Try.prog 86 #[v] h (fun v' h' => Ext h h' ∧ NewI h.size h' 3 v' xs) := by
  (refine CallsH_of_exec Try.func86 rfl bod86 ?_; simp only [Try.ntmps86, Try.results86, coreS, stK_some, splice, Value.cells, Value.oneCell', Nat.reduceAdd, Nat.reduceSub, Nat.reduceMul, Nat.reduceLeDiff, Int.reduceEq, Nat.reduceEqDiff])
  refine CallsH.mono (appendSeq99 v xs h hseq hl hF) ?_
  rintro v' h1 ⟨x, N⟩
  simp only [coreS, Value.cells, Value.oneCell', Nat.reduceAdd, Nat.reduceSub, Nat.reduceMul, Nat.reduceLeDiff, Int.reduceEq, Nat.reduceEqDiff]
  exact ⟨x, N⟩
/-- The numbers of a sequence, sorted. -/
theorem sorted54 (v : Value) (xs : List Int) {F : Eng.Heap → Prop} (h : Eng.Heap) (hseq : SeqOf Try.prog v F (yis xs)) (hl : xs.length ≤ 1000) (hF : ∀ h', Ext h h' → F h') :
    CallsH Try.prog 54 #[v] h (fun v' h' => Ext h h' ∧ ∃ ys, ys.Perm xs ∧ srt ys ∧ NewI h.size h' 3 v' ys) := by
  (refine CallsH_of_exec Try.func54 rfl bod54 ?_; simp only [Try.ntmps54, Try.results54, coreS, stK_some, splice, Value.cells, Value.oneCell', Nat.reduceAdd, Nat.reduceSub, Nat.reduceMul, Nat.reduceLeDiff, Int.reduceEq, Nat.reduceEqDiff])
  refine CallsH.mono (collect86 v xs h hseq hl hF) ?_
  rintro v' h1 ⟨x1, a, cap, rfl, O⟩
  simp only [coreS, Value.cells, Value.oneCell', Nat.reduceAdd, Nat.reduceSub, Nat.reduceMul, Nat.reduceLeDiff, Int.reduceEq, Nat.reduceEqDiff]
  refine CallsH.mono (sort73_own h.size xs.length cap a xs h1 O (by omega)) ?_
  rintro v h2 ⟨rfl, ⟨q1, q2⟩, ys, hp, hs, O2⟩
  simp only [coreS, Value.cells, Value.oneCell', Nat.reduceAdd, Nat.reduceSub, Nat.reduceMul, Nat.reduceLeDiff, Int.reduceEq, Nat.reduceEqDiff]
  refine ⟨⟨Nat.le_trans x1.size q1, fun b hb => (q2 b (Nat.lt_of_lt_of_le hb x1.size) hb).trans (x1.old b hb)⟩, ys, hp, hs, a, cap, by rw [hp.length_eq], ?_⟩
  have := O2
  rwa [← hp.length_eq] at this
end Go.Proofs.Ytmgkeeefbfefgaa
