/- Texts joined by pack.py: lemmas for YtmgkeeefbfefgaaLists. No condition. -/
import Derived.Test.YtmgkeeefbfefgaaPE9
set_option linter.unusedSimpArgs false
set_option linter.unusedVariables false
set_option linter.defProp false
section
namespace Go.Proofs.Ytmgkeeefbfefgaa
open Go Go.Proofs Go.Eng Go.Run Tab
set_option maxRecDepth 100000
set_option linter.unusedSimpArgs false
set_option linter.unusedVariables false
set_option maxHeartbeats 1000000
set_option linter.defProp false
def M9Fs87 := (And.intro (And.intro (And.intro @agg25 @agg3) (And.intro @by3 @inf25)) (And.intro (And.intro @inf3 @sz25) (And.intro @sz3 @Try.underlying25)))
def M9Fs99 := (And.intro (And.intro (And.intro @agg25 @by3) (And.intro @inf25 @inf3)) (And.intro (And.intro @sz25 @sz3) (And.intro @zero3 @Try.underlying25)))
theorem app25 {h : Eng.Heap} {er : Env} {ty : TypeId} {m0 : Nat} {x y : Operand} {a b : Option Addr} {len cap m c : Nat} {xs ys : List Int} {K : Value → Eng.Heap → Prop} (hx : ev er x = .slice a len cap) (hy : ev er y = .slice b m c) (O : OwnI m0 h 3 a len cap xs) (h0h : m0 ≤ h.size) (I : IntsV h b m ys) (hb : len + m ≤ 100000)
    (H : ∀ a' cap' h', OwnI m0 h' 3 a' (len + m) cap' (xs ++ ys) → App h h' a a' → K (.slice a' (len + m) cap') h') : opSem Try.prog (.call ⟨.builtin .append, #[x, y], #[25, 25]⟩) ty er h K :=
  append_intsT Try.underlying25 Try.underlying25 inf3 sz3 (by rw [by3]; decide) zero3 hx hy O h0h I hb H
def yis (xs : List Int) : List (List Value) := xs.map fun x => [.int .i64 x]
theorem values87 (lo bx n c : Nat) (a : Option Addr) (xs : List Int) (h : Eng.Heap) (hn : n = xs.length) (hl : n ≤ 1000000) (J : Nat → Eng.Heap → Prop) (E : Eng.Heap → Prop)
    (hx : ∀ i h', J i h' → h'[bx]? = some (.cells #[.slice a n c] 25) ∧ IntsV h' a n xs) (h0 : J 0 h)
    (step : ∀ i h' vs, (yis xs)[i]? = some vs → J i h' → CallY Try.prog (.func (.yield lo) #[] #[]) vs h' (fun v h'' => (v = .bool true ∧ J (i + 1) h'') ∨ (v = .bool false ∧ E h''))) :
    CallsH Try.prog 87 (#[] ++ #[.func (.yield lo) #[] #[]] ++ #[.pointer (some ⟨bx, 0, none⟩)]) h (fun v h' => J (yis xs).length h' ∨ E h') := by
  simp only [Array.append_empty, Array.empty_append, List.append_toArray, List.cons_append, List.nil_append]
  (refine CallsH_of_exec Try.func87 rfl bod87 ?_; simp only [Try.ntmps87, Try.results87, coreS, stK_some, splice, Value.cells, Value.oneCell', Nat.reduceAdd, Nat.reduceSub, Nat.reduceMul, Nat.reduceLeDiff, Int.reduceEq, Nat.reduceEqDiff, M9Fs87])
  simp only [(hx 0 h h0).1, coreS, Value.cells, Value.oneCell', Nat.reduceAdd, Nat.reduceSub, Nat.reduceMul, Nat.reduceLeDiff, Int.reduceEq, Nat.reduceEqDiff, M9Fs87]
  refine WP_loopI [4, 7, 8, 9, 10, 11, 12, 13, 14, 15] (fun g h' => ∃ i : Nat, i ≤ n ∧ g 7 = .int .i64 i ∧ J i h') (fun g _ => match g 7 with | .int _ m => n - m.toNat | _ => 0) ?_ ?_
  · exact ⟨0, by omega, rfl, h0⟩
  · rintro g h' ⟨i, hi, hg, hJ⟩
    have hv := (hx i h' hJ).2
    simp only [hg, coreS, Value.cells, Value.oneCell', Nat.reduceAdd, Nat.reduceSub, Nat.reduceMul, Nat.reduceLeDiff, Int.reduceEq, Nat.reduceEqDiff, M9Fs87]
    refine ⟨fun hlt => ?_, fun hge => ?_⟩
    · have hil : i < xs.length := by omega
      simp only [hv.cell hil, coreS, Value.cells, Value.oneCell', Nat.reduceAdd, Nat.reduceSub, Nat.reduceMul, Nat.reduceLeDiff, Int.reduceEq, Nat.reduceEqDiff, scopeK_normal, scopeK_ret, scopeK_exit, callV_yield, binds_cons, binds_nil, M9Fs87]
      refine ⟨⟨by omega, by omega⟩, hv.isSome (by omega), ?_⟩
      have hst := step i h' [.int .i64 (xs.getD i 0)] (by simp [yis, List.getD, List.getElem?_eq_getElem hil]) hJ
      refine hst.run1 rfl rfl ?_
      rintro v h2 (⟨rfl, hJ2⟩ | ⟨rfl, hE⟩)
      · simp only [coreS, Value.cells, Value.oneCell', Nat.reduceAdd, Nat.reduceSub, Nat.reduceMul, Nat.reduceLeDiff, Int.reduceEq, Nat.reduceEqDiff, scopeK_normal, scopeK_ret, scopeK_exit, callV_yield, binds_cons, binds_nil, M9Fs87]
        refine ⟨by rw [inK_i64]; omega, roundK_mk (by kernel_rfl) ⟨i + 1, by omega, rfl, hJ2⟩ ?_⟩
        show n - ((i : Int) + 1).toNat < n - (i : Int).toNat
        omega
      · simp only [coreS, Value.cells, Value.oneCell', Nat.reduceAdd, Nat.reduceSub, Nat.reduceMul, Nat.reduceLeDiff, Int.reduceEq, Nat.reduceEqDiff, scopeK_normal, scopeK_ret, scopeK_exit, callV_yield, binds_cons, binds_nil, M9Fs87]
        exact .inr hE
    · have : i = n := by omega
      subst this
      left
      have e : (yis xs).length = xs.length := by simp [yis]
      rw [e, ← hn]
      exact hJ
theorem values_seq {bx n c : Nat} {a : Option Addr} {xs : List Int} (hn : n = xs.length) (hl : n ≤ 1000000) :
    SeqOf Try.prog (.func (.func 87) #[] #[.pointer (some ⟨bx, 0, none⟩)]) (fun h' => h'[bx]? = some (.cells #[.slice a n c] 25) ∧ IntsV h' a n xs) (yis xs) :=
  ⟨87, _, _, rfl, fun lo h0 J E hx hJ step => values87 lo bx n c a xs h0 hn hl J E hx hJ step⟩
theorem values55 (a : Option Addr) (n c : Nat) (h : Eng.Heap) : CallsH Try.prog 55 #[.slice a n c] h (fun v h' => v = .func (.func 87) #[] #[.pointer (some ⟨h.size, 0, none⟩)] ∧ h' = h.push (.cells #[.slice a n c] 25)) := by
  (refine CallsH_of_exec Try.func55 rfl bod55 ?_; simp only [Try.ntmps55, Try.results55, coreS, stK_some, splice, Value.cells, Value.oneCell', Nat.reduceAdd, Nat.reduceSub, Nat.reduceMul, Nat.reduceLeDiff, Int.reduceEq, Nat.reduceEqDiff])
theorem appendSeq99 (v : Value) (xs : List Int) {F : Eng.Heap → Prop} (h : Eng.Heap) (hseq : SeqOf Try.prog v F (yis xs)) (hl : xs.length ≤ 1000) (hF : ∀ h', Ext h h' → F h') :
    CallsH Try.prog 99 #[.slice none 0 0, v] h (fun v' h' => Ext h h' ∧ NewI h.size h' 3 v' xs) := by
  (refine CallsH_of_exec Try.func99 rfl bod99 ?_; simp only [Try.ntmps99, Try.results99, coreS, stK_some, splice, Value.cells, Value.oneCell', Nat.reduceAdd, Nat.reduceSub, Nat.reduceMul, Nat.reduceLeDiff, Int.reduceEq, Nat.reduceEqDiff, M9Fs99])
  obtain ⟨hh, hhe⟩ : ∃ hh, hh = h.push (.cells (Value.slice none 0 0).cells 25) := ⟨_, rfl⟩
  refine WP_rangeI (xss := yis xs) rfl hseq (fun i h' => Ext h h' ∧ i ≤ xs.length ∧ h'[h.size + 1]? = some (.deferred (some [])) ∧ ∃ a cap, h'[h.size]? = some (.cells #[.slice a i cap] 25) ∧ OwnI (h.size + 3) h' 3 a i cap (xs.take i)) (fun _ _ => False) ?_ ?_ ?_ ?_ ?_ ?_ ?_ ?_
  · intro vs hvs
    simp only [yis, List.mem_map] at hvs
    obtain ⟨_, _, rfl⟩ := hvs
    rfl
  · exact fun i h' H => hF _ H.1
  · rintro i h1 h2 ⟨x, hi, h3, a, cap, h4, h5⟩ u
    simp only [push_size] at u
    exact ⟨u.ext x (by omega), hi, u.get h3 (by omega), a, cap, u.get h4 (by omega), h5.upd u (by omega)⟩
  · exact fun j h1 h2 H _ => H
  · intro h' x h1 h2
    simp only [push_size] at h1
    exact ⟨x.of_push, by omega, h1, none, 0, x.get push_new, OwnI.nil _ _ _⟩
  · rintro i h' vs o hvs ⟨x, hi, h1, a, cap, h2, h3⟩ ho
    obtain ⟨hil, rfl⟩ : ∃ hil : i < xs.length, vs = [.int .i64 (xs.getD i 0)] := by
      simp only [yis, List.getElem?_map] at hvs
      cases hq : xs[i]? with
      | none => simp [hq] at hvs
      | some y =>
        obtain ⟨hil, hy⟩ := List.getElem?_eq_some_iff.1 hq
        refine ⟨hil, ?_⟩
        simp [hq] at hvs
        simp [List.getD, hq, hvs]
    simp only [push_size] at ho
    simp only [asgI_normal, coreS, Value.cells, Value.oneCell', Nat.reduceAdd, Nat.reduceSub, Nat.reduceMul, Nat.reduceLeDiff, Int.reduceEq, Nat.reduceEqDiff, scopeK_normal, scopeK_ret, scopeK_exit, callV_yield, binds_cons, binds_nil, M9Fs99]
    refine ⟨ho, fun h4 o2 u4 ho2 => ?_⟩
    have k2 := u4.get h2 (by omega)
    have k1 := u4.get h1 (by omega)
    have k3 := h3.upd u4 (by omega)
    have kx := u4.ext x (by omega)
    clear h1 h2 h3 x u4 ho
    simp only [k2, coreS, Value.cells, Value.oneCell', Nat.reduceAdd, Nat.reduceSub, Nat.reduceMul, Nat.reduceLeDiff, Int.reduceEq, Nat.reduceEqDiff, scopeK_normal, scopeK_ret, scopeK_exit, callV_yield, binds_cons, binds_nil, M9Fs99]
    have hsz := lt_of_get ho2
    have k3' := k3.ext ((Ext.refl h4).push (.cells #[.int .i64 (xs.getD i 0)] 3))
    refine app25 rfl rfl k3' (by simp; omega) (intsV_one push_new) (by omega) fun a' cap' h5 O A => ?_
    have q1 := A.upd k3' (push_old k1) (by omega)
    have q2 := A.upd k3' (push_old k2) (by omega)
    have q3 := A.upd k3' (push_old ho2) (by omega)
    have qx := A.extN k3' (kx.push _) (by omega)
    clear A k1 k2 k3 k3' ho2 hsz kx
    simp only [q2, coreS, Value.cells, Value.oneCell', Nat.reduceAdd, Nat.reduceSub, Nat.reduceMul, Nat.reduceLeDiff, Int.reduceEq, Nat.reduceEqDiff, scopeK_normal, scopeK_ret, scopeK_exit, callV_yield, binds_cons, binds_nil, M9Fs99]
    refine stK_abs q2 (by simp) fun h6 g2 u6 => ?_
    simp only [endI_normal, coreS, Value.cells, Value.oneCell', Nat.reduceAdd, Nat.reduceSub, Nat.reduceMul, Nat.reduceLeDiff, Int.reduceEq, Nat.reduceEqDiff, scopeK_normal, scopeK_ret, scopeK_exit, callV_yield, binds_cons, binds_nil, M9Fs99]
    refine ⟨u6.get q3 (by omega), u6.ext qx (by omega), hil, u6.get q1 (by omega), a', cap', g2, ?_⟩
    have e : xs.take i ++ [xs.getD i 0] = xs.take (i + 1) := by
      rw [List.take_add_one, List.getElem?_eq_getElem hil, List.getD, List.getElem?_eq_getElem hil]; rfl
    rw [← e]
    exact O.upd u6 (by omega)
  · rintro h' ⟨x, hi, h1, a, cap, h2, h3⟩
    have e : (yis xs).length = xs.length := by simp [yis]
    rw [e] at h2 h3
    simp only [push_size, h2, coreS, Value.cells, Value.oneCell', Nat.reduceAdd, Nat.reduceSub, Nat.reduceMul, Nat.reduceLeDiff, Int.reduceEq, Nat.reduceEqDiff, scopeK_normal, scopeK_ret, scopeK_exit, callV_yield, binds_cons, binds_nil, M9Fs99]
    refine fin_mark h1 ?_
    simp only [coreS, Value.cells, Value.oneCell', Nat.reduceAdd, Nat.reduceSub, Nat.reduceMul, Nat.reduceLeDiff, Int.reduceEq, Nat.reduceEqDiff, scopeK_normal, scopeK_ret, scopeK_exit, callV_yield, binds_cons, binds_nil, M9Fs99]
    rw [List.take_of_length_le (Nat.le_refl _)] at h3
    exact ⟨Upd.set.ext x (by omega), a, cap, rfl, (h3.upd Upd.set (by omega)).mono (by omega)⟩
  · exact fun j h' H => H.elim
theorem collect86 (v : Value) (xs : List Int) {F : Eng.Heap → Prop} (h : Eng.Heap) (hseq : SeqOf Try.prog v F (yis xs)) (hl : xs.length ≤ 1000) (hF : ∀ h', Ext h h' → F h') :
    CallsH Try.prog 86 #[v] h (fun v' h' => Ext h h' ∧ NewI h.size h' 3 v' xs) := by
  (refine CallsH_of_exec Try.func86 rfl bod86 ?_; simp only [Try.ntmps86, Try.results86, coreS, stK_some, splice, Value.cells, Value.oneCell', Nat.reduceAdd, Nat.reduceSub, Nat.reduceMul, Nat.reduceLeDiff, Int.reduceEq, Nat.reduceEqDiff])
  refine CallsH.mono (appendSeq99 v xs h hseq hl hF) ?_
  rintro v' h1 ⟨x, N⟩
  simp only [coreS, Value.cells, Value.oneCell', Nat.reduceAdd, Nat.reduceSub, Nat.reduceMul, Nat.reduceLeDiff, Int.reduceEq, Nat.reduceEqDiff]
  exact ⟨x, N⟩
theorem sorted54 (v : Value) (xs : List Int) {F : Eng.Heap → Prop} (h : Eng.Heap) (hseq : SeqOf Try.prog v F (yis xs)) (hl : xs.length ≤ 1000) (hF : ∀ h', Ext h h' → F h') :
    CallsH Try.prog 54 #[v] h (fun v' h' => Ext h h' ∧ ∃ ys, ys.Perm xs ∧ srt ys ∧ NewI h.size h' 3 v' ys) := by
  (refine CallsH_of_exec Try.func54 rfl bod54 ?_; simp only [Try.ntmps54, Try.results54, coreS, stK_some, splice, Value.cells, Value.oneCell', Nat.reduceAdd, Nat.reduceSub, Nat.reduceMul, Nat.reduceLeDiff, Int.reduceEq, Nat.reduceEqDiff])
  refine CallsH.mono (collect86 v xs h hseq hl hF) ?_
  rintro v' h1 ⟨x1, a, cap, rfl, O⟩
  simp only [coreS, Value.cells, Value.oneCell', Nat.reduceAdd, Nat.reduceSub, Nat.reduceMul, Nat.reduceLeDiff, Int.reduceEq, Nat.reduceEqDiff]
  refine CallsH.mono (sort73_own h.size xs.length cap a xs h1 O (by omega)) ?_
  rintro v h2 ⟨rfl, ⟨q1, q2⟩, ys, hp, hs, O2⟩
  simp only [coreS, Value.cells, Value.oneCell', Nat.reduceAdd, Nat.reduceSub, Nat.reduceMul, Nat.reduceLeDiff, Int.reduceEq, Nat.reduceEqDiff]
  refine ⟨⟨Nat.le_trans x1.size q1, fun b hb => (q2 b (Nat.lt_of_lt_of_le hb x1.size) hb).trans (x1.old b hb)⟩, ys, hp, hs, a, cap, by rw [hp.length_eq], ?_⟩
  have := O2
  rwa [← hp.length_eq] at this
end Go.Proofs.Ytmgkeeefbfefgaa
end
section
namespace Go.Proofs.Ytmgkeeefbfefgaa
open Go Go.Proofs Go.Eng Go.Run Tab
set_option maxRecDepth 100000
set_option linter.unusedSimpArgs false
set_option linter.unusedVariables false
set_option linter.defProp false
set_option maxHeartbeats 1000000
set_option linter.defProp false
def M10Fs20 := (And.intro (And.intro (And.intro @agg22 (And.intro @agg24 @agg3)) (And.intro @by3 (And.intro @fo24_2 @inf22))) (And.intro (And.intro @inf24 (And.intro @inf3 @sz22)) (And.intro (And.intro @sz24 @sz3) (And.intro @Try.underlying22 @Try.underlying25))))
def natL (xs : List Int) : List Nat := xs.map Int.toNat
theorem natL_length (xs : List Int) : (natL xs).length = xs.length := by simp [natL]
theorem natL_get (xs : List Int) (i : Nat) : (natL xs).getD i 0 = (xs.getD i 0).toNat := by
  simp only [natL, List.getD, List.getElem?_map]
  cases xs[i]? <;> rfl
def zsN (l : List Nat) : List Int := l.map fun j : Nat => (j : Int)
theorem zsN_natL {xs : List Int} (h : ∀ x ∈ xs, 0 ≤ x) : zsN (natL xs) = xs := by
  unfold zsN natL
  rw [List.map_map]
  conv => rhs; rw [← List.map_id xs]
  refine List.map_congr_left fun x hx => ?_
  have := h x hx
  show ((x.toNat : Nat) : Int) = x
  omega
theorem natL_zsN (l : List Nat) : natL (zsN l) = l := by
  unfold zsN natL
  rw [List.map_map]
  conv => rhs; rw [← List.map_id l]
  exact List.map_congr_left fun x hx => by simp
def rightD (ws : List Wn) (days : List Int) : Prop := MB.rightL (shN ws) (moN ws) (natL days)
open Classical in
/-- The error of CheckDays. -/
noncomputable def chkD (S M : Int) (ws : List Wn) (days : List Int) : Int :=
  if chk S M ws ≠ 0 then chk S M ws else if days.length ≠ ws.length then 15 else if inB 0 13 days = false then 3 else if rightD ws days then 0 else 18
noncomputable def difD (S M : Int) (ws : List Wn) (days : List Int) : Int := if chkD S M ws days = 0 then (MB.dif (natL days) : Nat) else 0
def onL (c : Nat → Nat) (i : Nat) : List (Nat × Nat) := (List.range i).map fun k => (k, c k)
theorem onL_succ (c : Nat → Nat) (i : Nat) : onL c (i + 1) = onL c i ++ [(i, c i)] := by simp [onL, List.range_succ]
theorem held_iff {sh mo : Nat → Nat} {L : List (Nat × Nat)} {k : Sk} : held sh mo L k = true ↔ ∃ x ∈ L, k = (0, sh x.1, x.2) ∨ k = (1, mo x.1, x.2) := by
  simp [held]
theorem fits_iff {sh mo : Nat → Nat} {L : List (Nat × Nat)} {i d : Nat} : fits sh mo L i d = true ↔ ∀ x ∈ L, x.2 = d → sh x.1 ≠ sh i ∧ mo x.1 ≠ mo i := by
  unfold fits
  rw [Bool.and_eq_true, Bool.not_eq_true', Bool.not_eq_true', ← Bool.not_eq_true, ← Bool.not_eq_true, held_iff, held_iff]
  constructor
  · rintro ⟨h1, h2⟩ x hx rfl
    exact ⟨fun e => h1 ⟨x, hx, .inl (by rw [e])⟩, fun e => h2 ⟨x, hx, .inr (by rw [e])⟩⟩
  · intro H
    refine ⟨?_, ?_⟩
    · rintro ⟨x, hx, h | h⟩
      · simp only [Prod.mk.injEq] at h; exact (H x hx h.2.2.symm).1 h.2.1.symm
      · simp at h
    · rintro ⟨x, hx, h | h⟩
      · simp at h
      · simp only [Prod.mk.injEq] at h; exact (H x hx h.2.2.symm).2 h.2.1.symm
theorem fits_on {sh mo c : Nat → Nat} {i d : Nat} : fits sh mo (onL c i) i d = true ↔ ∀ k, k < i → c k = d → sh k ≠ sh i ∧ mo k ≠ mo i := by
  rw [fits_iff]
  constructor
  · intro H k hk e
    exact H (k, c k) (List.mem_map.2 ⟨k, List.mem_range.2 hk, rfl⟩) e
  · intro H x hx e
    simp only [onL, List.mem_map, List.mem_range] at hx
    obtain ⟨k, hk, rfl⟩ := hx
    exact H k hk e
theorem right_step {sh mo c : Nat → Nat} {i : Nat} : MB.right sh mo c (i + 1) ↔ MB.right sh mo c i ∧ ∀ k, k < i → c k = c i → sh k ≠ sh i ∧ mo k ≠ mo i := by
  constructor
  · intro H
    exact ⟨fun a b ha hb => H a b (by omega) (by omega), fun k hk e => H k i (by omega) (by omega) (by omega) e⟩
  · rintro ⟨H1, H2⟩ a b ha hb hne e
    by_cases h1 : a < i <;> by_cases h2 : b < i
    · exact H1 a b h1 h2 hne e
    · obtain rfl : b = i := by omega
      exact H2 a h1 e
    · obtain rfl : a = i := by omega
      have := H2 b h2 e.symm
      exact ⟨fun e => this.1 e.symm, fun e => this.2 e.symm⟩
    · omega
theorem compact_len {ys : List Int} {days : List Int} (hp : ys.Perm days) (hs : srt ys) (h0 : ∀ x ∈ days, 0 ≤ x) : (Lib.compact ys).length = MB.dif (natL days) := by
  refine MB.compact_dif (days := natL days) ?_ hs
  have := zsN_natL h0
  unfold zsN at this
  rw [this]; exact hp
theorem checkDays20 (S M : Int) (a : Option Addr) (n c : Nat) (ws : List Wn) (b : Option Addr) (m k : Nat) (days : List Int) (h : Eng.Heap) (hr : Row h a (wsV ws)) (hn : n = ws.length) (hl : n ≤ 1000000) (hd : IntsV h b m days) (hm : m ≤ 1000000) :
    CallsH Try.prog 20 #[.agg #[.int .i64 S, .int .i64 M, .slice a n c], .slice b m k] h (fun v h' => v = .tuple #[.int .i64 (difD S M ws days), .int .i64 (chkD S M ws days)] ∧ Ext h h') := by
  have hml := hd.len
  (refine CallsH_of_exec Try.func20 rfl bod20 ?_; simp only [Try.ntmps20, Try.results20, coreS, stK_some, splice, Value.cells, Value.oneCell', Nat.reduceAdd, Nat.reduceSub, Nat.reduceMul, Nat.reduceLeDiff, Int.reduceEq, Nat.reduceEqDiff, M10Fs20])
  have x0 : Ext h (h.push (.cells #[.int .i64 S, .int .i64 M, .slice a n c] 24)) := (Ext.refl h).push _
  have fin : ∀ {e : Int} {Q : Prop}, chkD S M ws days = e → e ≠ 0 → Q → Value.tuple #[.int .i64 0, .int .i64 e] = Value.tuple #[.int .i64 (difD S M ws days), .int .i64 (chkD S M ws days)] ∧ Q := fun h1 h2 q => ⟨by unfold difD; rw [h1, if_neg h2], q⟩
  refine CallsH.mono (open49 S M a n c ws _ (hr.push _) hn hl) ?_
  rintro v h1 ⟨x1, ⟨s, mm, rfl, rfl, V, g, mb, rfl, hg, hmb, hgs, hbs⟩ | ⟨hc, rfl⟩⟩
  rotate_left
  · simp only [hc, decide_false, Bool.not_false, coreS, Value.cells, Value.oneCell', Nat.reduceAdd, Nat.reduceSub, Nat.reduceMul, Nat.reduceLeDiff, Int.reduceEq, Nat.reduceEqDiff, M10Fs20]
    exact fin (by unfold chkD; rw [if_pos hc]) hc (x0.trans x1)
  have hb1 := x1.get (push_new (h := h))
  have y1 := x0.trans x1
  have hc0 := V.chk
  simp only [hb1, Bool.not_true, decide_true, coreS, Value.cells, Value.oneCell', Nat.reduceAdd, Nat.reduceSub, Nat.reduceMul, Nat.reduceLeDiff, Int.reduceEq, Nat.reduceEqDiff, M10Fs20]
  refine ⟨fun heq => ?_, fun hne => fin (by unfold chkD; rw [if_neg (by simpa using hc0), if_pos (by omega)]) (by omega) y1⟩
  refine CallsH.mono (within52 0 13 b m k days h1 (hd.ext y1) hm) ?_
  rintro v h2 ⟨rfl, x2⟩
  have y2 := y1.trans x2
  cases hin : inB 0 13 days with
  | false =>
    simp only [Bool.not_false, coreS, Value.cells, Value.oneCell', Nat.reduceAdd, Nat.reduceSub, Nat.reduceMul, Nat.reduceLeDiff, Int.reduceEq, Nat.reduceEqDiff, M10Fs20]
    exact fin (by unfold chkD; rw [if_neg (by simpa using hc0), if_neg (by omega), if_pos hin]) (by omega) y2
  | true =>
  have hg2 := x2.get hg
  have hmb2 := x2.get hmb
  have hall := inB_iff.1 hin
  obtain ⟨C, hC⟩ : ∃ C : Nat → Nat, C = fun i => (natL days).getD i 0 := ⟨_, rfl⟩
  have hCd : ∀ i, i < m → days.getD i 0 = (C i : Nat) := fun i hi => by
    have e1 : C i = (natL days).getD i 0 := by rw [hC]
    rw [e1, natL_get]
    have hm : days.getD i 0 ∈ days := by
      have : i < days.length := by omega
      simp [List.getD, List.getElem?_eq_getElem this]
    have := hall _ hm
    omega
  have hRD : ∀ j, j ≤ m → ¬ MB.right (shN ws) (moN ws) C j → ¬ rightD ws days := fun j hj hn hr => by
    unfold rightD MB.rightL at hr
    rw [natL_length, ← hC] at hr
    exact hn fun a b ha hb => hr a b (by omega) (by omega)
  have hgs1 := lt_of_get hg
  simp only [Bool.not_true, coreS, Value.cells, Value.oneCell', Nat.reduceAdd, Nat.reduceSub, Nat.reduceMul, Nat.reduceLeDiff, Int.reduceEq, Nat.reduceEqDiff, M10Fs20]
  have hgm : g ≠ mb := fun e => by unfold DeskB at hg; rw [e, hmb] at hg; cases hg
  rw [push_size] at hbs hgs
  have hM0 : MapV kvS h2 mb [] 0 := ⟨by simpa using hmb2, by simp, by simp⟩
  refine WP_loopI [4, 5, 8, 9, 33, 34, 35, 36, 37, 38, 39, 40, 41, 42, 43] (fun e h' => Chg h2 h' mb ∧ DeskB h' g mb s mm a n c ∧ ∃ i : Nat, i ≤ m ∧ e 33 = .int .i64 i ∧ (∃ es c0, MapV kvS h' mb es c0 ∧ Hold (shN ws) (moN ws) es (onL C i)) ∧ MB.right (shN ws) (moN ws) C i) (fun e _ => match e 33 with | .int _ q => m - q.toNat | _ => 0) ⟨Chg.refl _ _, hg2, 0, by omega, rfl, ⟨_, _, hM0, Hold.nil⟩, fun a b ha => by omega⟩ ?_
  rintro e h' ⟨ch, hg', i, hi, he, ⟨es, c0, Mp, H⟩, hR⟩
  have hd' := (hd.ext y2).chg hmb2 ch
  have hr' := (hr.ext y2).chg hmb2 ch
  by_cases hil : i < days.length
  · have hlt : (i : Int) < (m : Int) := by omega
    have hcell := hd'.cell hil
    rw [hCd i (by omega)] at hcell
    simp only [he, hlt, hcell, decide_true, coreS, Value.cells, Value.oneCell', Nat.reduceAdd, Nat.reduceSub, Nat.reduceMul, Nat.reduceLeDiff, Int.reduceEq, Nat.reduceEqDiff, M10Fs20]
    refine ⟨by omega, hd.isSome (by omega), ?_⟩
    refine CallsH.mono (hang53 g mb s mm a n c ws i (C i) es c0 _ h' hg' hr' hn V (by omega) Mp H) ?_
    rintro v h3 ⟨rfl, ch3, es', c', Mp3, H3⟩
    cases hf : fits (shN ws) (moN ws) (onL C i) i (C i) with
    | false =>
      simp only [Bool.not_false, coreS, Value.cells, Value.oneCell', Nat.reduceAdd, Nat.reduceSub, Nat.reduceMul, Nat.reduceLeDiff, Int.reduceEq, Nat.reduceEqDiff, M10Fs20]
      refine fin ?_ (by omega) (Chg.fresh y2 (ch.trans ch3) (by omega))
      unfold chkD
      rw [if_neg (by simpa using hc0), if_neg (by omega), if_neg (by simp [hin]), if_neg]
      refine hRD (i + 1) (by omega) fun hr1 => ?_
      have := fits_on.2 (right_step.1 hr1).2
      rw [hf] at this; cases this
    | true =>
      rw [hf, if_pos rfl, ← onL_succ] at H3
      simp only [Bool.not_true, coreS, Value.cells, Value.oneCell', Nat.reduceAdd, Nat.reduceSub, Nat.reduceMul, Nat.reduceLeDiff, Int.reduceEq, Nat.reduceEqDiff, M10Fs20]
      refine ⟨by rw [inK_i64]; omega, roundK_mk (by kernel_rfl) ⟨ch.trans ch3, ch3.get hg' hgm, i + 1, by omega, rfl, ⟨_, _, Mp3, H3⟩, right_step.2 ⟨hR, fits_on.1 hf⟩⟩ ?_⟩
      show m - ((i : Int) + 1).toNat < m - (i : Int).toNat
      omega
  · obtain rfl : i = m := by omega
    have hlt : ¬ ((i : Int) < (i : Int)) := by omega
    have hD : chkD (s : Int) (mm : Int) ws days = 0 := by
      unfold chkD
      rw [if_neg (by simpa using hc0), if_neg (by omega), if_neg (by simp [hin]), if_pos]
      unfold rightD MB.rightL
      rw [natL_length, ← hC, ← hml]
      exact hR
    have z3 : Ext h h' := Chg.fresh y2 ch (by omega)
    have V3 := V.n
    simp only [he, hlt, decide_false, coreS, Value.cells, Value.oneCell', Nat.reduceAdd, Nat.reduceSub, Nat.reduceMul, Nat.reduceLeDiff, Int.reduceEq, Nat.reduceEqDiff, M10Fs20]
    refine CallsH.mono (values55 b i k h') ?_
    rintro v h3 ⟨rfl, rfl⟩
    have hseq := values_seq (bx := h'.size) (n := i) (c := k) (a := b) (xs := days) hml hm
    simp only [coreS, Value.cells, Value.oneCell', Nat.reduceAdd, Nat.reduceSub, Nat.reduceMul, Nat.reduceLeDiff, Int.reduceEq, Nat.reduceEqDiff, M10Fs20]
    refine CallsH.mono (sorted54 _ days _ hseq (by omega) fun h4 x4 => ⟨x4.get push_new, (hd'.ext ((Ext.refl h').push _)).ext x4⟩) ?_
    rintro v h4 ⟨x4, ys, hp, hs, a4, cap, rfl, O⟩
    have hcl := compact_len hp hs fun x hx => (hall x hx).1
    have z4 : Ext h h4 := z3.trans (x4.of_push)
    have hD2 : difD (s : Int) (mm : Int) ws days = ((Lib.compact ys).length : Nat) := by unfold difD; rw [if_pos hD, hcl]
    simp only [coreS, Value.cells, Value.oneCell', Nat.reduceAdd, Nat.reduceSub, Nat.reduceMul, Nat.reduceLeDiff, Int.reduceEq, Nat.reduceEqDiff, M10Fs20]
    by_cases h0 : 0 < ys.length
    · obtain ⟨g4, tl, rfl, hg4, hb4, hc4, hc5, _⟩ := O.block h0
      refine CallsH.mono (compact56 g4 cap _ ys tl h4 hb4 rfl hc5 (by rw [hp.length_eq]; omega)) ?_
      rintro v h5 ⟨rfl, u5⟩
      rw [push_size] at hg4
      have := z3.size
      simp only [hD, hD2, coreS, Value.cells, Value.oneCell', Nat.reduceAdd, Nat.reduceSub, Nat.reduceMul, Nat.reduceLeDiff, Int.reduceEq, Nat.reduceEqDiff, M10Fs20]
      exact u5.ext z4 (by omega)
    · obtain rfl : ys = [] := List.length_eq_zero_iff.1 (by omega)
      refine CallsH.mono (compact0 a4 cap h4) ?_
      rintro v h5 ⟨rfl, rfl⟩
      have e0 : (Lib.compact ([] : List Int)).length = 0 := by rfl
      simp only [hD, hD2, e0, coreS, Value.cells, Value.oneCell', Nat.reduceAdd, Nat.reduceSub, Nat.reduceMul, Nat.reduceLeDiff, Int.reduceEq, Nat.reduceEqDiff, M10Fs20]
      exact z4
end Go.Proofs.Ytmgkeeefbfefgaa
end
section
set_option linter.unusedVariables false
set_option linter.unusedSimpArgs false
namespace Go.Eng
open Go
section loopd
variable {l : Option Nat} {P : Program}
def roundD (e0 : Env) (ws : List Nat) (I : (Nat → Value) → List Deferred → Heap → Prop) (μ : (Nat → Value) → Heap → Nat) (n : Nat) (e : Env) (d : List Deferred) (h : Heap) : Prop :=
  e = mkE e0 ws (fun i => e.getD i undef) ∧ I (fun i => e.getD i undef) d h ∧ μ (fun i => e.getD i undef) h < n
attribute [irreducible] roundD
def Marks (m0 m1 : Nat) (h : Heap) (d : List Deferred) : Prop := ∃ rs : List Nat, d = rs.map mkD ∧ rs.Nodup ∧ ∀ r ∈ rs, m0 ≤ r ∧ r < m1 ∧ h[r]? = some (.deferred (some []))
theorem Marks.nil (m0 m1 : Nat) (h : Heap) : Marks m0 m1 h [] := ⟨[], rfl, List.nodup_nil, by simp⟩
theorem Marks.keep {m0 m1 : Nat} {h h' : Heap} {d : List Deferred} (M : Marks m0 m1 h d) (hk : ∀ r, m0 ≤ r → r < m1 → ∀ o, h[r]? = some o → h'[r]? = some o) : Marks m0 m1 h' d := by
  obtain ⟨rs, h1, h2, h3⟩ := M
  exact ⟨rs, h1, h2, fun r hr => ⟨(h3 r hr).1, (h3 r hr).2.1, hk r (h3 r hr).1 (h3 r hr).2.1 _ (h3 r hr).2.2⟩⟩
theorem Marks.ext {m0 m1 : Nat} {h h' : Heap} {d : List Deferred} (M : Marks m0 m1 h d) (x : Ext h h') : Marks m0 m1 h' d := M.keep fun _ _ _ _ ho => x.get ho
theorem Marks.upd {m0 m1 b : Nat} {h h' : Heap} {d : List Deferred} (M : Marks m0 m1 h d) (u : Upd h h' b) (hb : b < m0 ∨ m1 ≤ b) : Marks m0 m1 h' d := M.keep fun r h1 h2 _ ho => u.get ho (by omega)
theorem Marks.mono {m0 m1 m2 : Nat} {h : Heap} {d : List Deferred} (M : Marks m0 m1 h d) (hm : m1 ≤ m2) : Marks m0 m2 h d := by
  obtain ⟨rs, h1, h2, h3⟩ := M
  exact ⟨rs, h1, h2, fun r hr => ⟨(h3 r hr).1, Nat.lt_of_lt_of_le (h3 r hr).2.1 hm, (h3 r hr).2.2⟩⟩
theorem Marks.cons {m0 m1 m2 r : Nat} {h : Heap} {d : List Deferred} (M : Marks m0 m1 h d) (hr : h[r]? = some (.deferred (some []))) (h0 : m0 ≤ r) (h1 : m1 ≤ r) (h2 : r < m2) : Marks m0 m2 h (mkD r :: d) := by
  obtain ⟨rs, h3, h4, h5⟩ := M
  refine ⟨r :: rs, by rw [h3]; rfl, List.nodup_cons.2 ⟨fun hm => ?_, h4⟩, fun q hq => ?_⟩
  · have := (h5 r hm).2.1; omega
  · rcases List.mem_cons.1 hq with rfl | hq
    · exact ⟨h0, h2, hr⟩
    · have := h5 q hq; exact ⟨this.1, by omega, this.2.2⟩
end loopd
end Go.Eng
end
section
namespace Go.Proofs.Ytmgkeeefbfefgaa
open Go Go.Proofs Go.Eng Go.Run Tab
set_option maxRecDepth 100000
set_option linter.unusedSimpArgs false
set_option linter.unusedVariables false
set_option linter.defProp false
set_option maxHeartbeats 2000000
set_option linter.defProp false
def M17Fs65 := (And.intro (And.intro (And.intro @agg22 (And.intro @agg3 @by58)) (And.intro (And.intro @fo24_2 @fo58_0) (And.intro @fo58_1 @fo99_0))) (And.intro (And.intro @inf22 (And.intro @inf3 @inf58)) (And.intro (And.intro @sz22 @sz3) (And.intro @sz58 @Try.underlying22))))
theorem clash65 (g b S M : Nat) (a : Option Addr) (n c : Nat) (ws : List Wn) (i k : Nat) (h : Eng.Heap) (hg : DeskB h g b S M a n c) (hr : Row h a (wsV ws)) (hn : n = ws.length) (V : Vb S M ws) (hi : i < ws.length) (hk : k < ws.length) :
    CallsH Try.prog 65 #[.pointer (some ⟨g, 0, none⟩), .int .i64 i, .int .i64 k] h (fun v h' => v = .bool (MB.clash (shN ws) (moN ws) i k) ∧ h' = h) := by
  unfold DeskB at hg
  (refine CallsH_of_exec Try.func65 rfl bod65 ?_; simp only [Try.ntmps65, Try.results65, coreS, stK_some, splice, Value.cells, Value.oneCell', Nat.reduceAdd, Nat.reduceSub, Nat.reduceMul, Nat.reduceLeDiff, Int.reduceEq, Nat.reduceEqDiff, M17Fs65])
  have fa := faR hr hi
  have a0 := cellW0 hr hi
  have a1 := cellW1 hr hi
  have b0 := cellW0 hr hk
  have b1 := cellW1 hr hk
  rw [(V.s hi).1] at a0
  rw [(V.m hi).1] at a1
  rw [(V.s hk).1] at b0
  rw [(V.m hk).1] at b1
  have hsm := rowW_some hr hi
  have hcl : MB.clash (shN ws) (moN ws) i k = (decide (((shN ws i : Nat) : Int) = (shN ws k : Nat)) || decide (((moN ws i : Nat) : Int) = (moN ws k : Nat))) := by
    unfold MB.clash
    congr 1
    · rw [Bool.eq_iff_iff]; simp; omega
    · rw [Bool.eq_iff_iff]; simp; omega
  rw [hcl]
  refine WP_draw (by kernel_rfl) sta_eq [(0, 0), (1, 0), (2, 0), (3, 0), (4, 0), (5, 0), (6, 0), (7, 0), (8, 0), (9, 0), (10, 0), (11, 0), (12, 0), (13, 0), (14, 0), (15, 0), (16, 0), (17, 0), (18, 0), (19, 0), (20, 0), (21, 0), (22, 0), (23, 0), (24, 0), (25, 0), (26, 0), (27, 0), (28, 0), (29, 0), (30, 0), (31, 0), (32, 0), (33, 0), (34, 0), (35, 0), (36, 0), (37, 0), (38, 0), (39, 0), (40, 0)] (by kernel_rfl) rfl (by kernel_rfl) ?_
  by_cases h1 : ((shN ws i : Nat) : Int) = (shN ws k : Nat)
  · simp only [hg, fa, a0, a1, b0, b1, h1, decide_true, hvK_eq, Int.toNat_natCast, coreS, Value.cells, Value.oneCell', Nat.reduceAdd, Nat.reduceSub, Nat.reduceMul, Nat.reduceLeDiff, Int.reduceEq, Nat.reduceEqDiff, drawS, M17Fs65]
    refine ⟨⟨by omega, by omega⟩, hsm, ⟨by omega, by omega⟩, hsm, ?_⟩
    simp
  · simp only [hg, fa, a0, a1, b0, b1, h1, decide_false, hvK_eq, Int.toNat_natCast, coreS, Value.cells, Value.oneCell', Nat.reduceAdd, Nat.reduceSub, Nat.reduceMul, Nat.reduceLeDiff, Int.reduceEq, Nat.reduceEqDiff, drawS, M17Fs65]
    refine ⟨⟨by omega, by omega⟩, hsm, ⟨by omega, by omega⟩, hsm, ⟨by omega, by omega⟩, hsm, ⟨by omega, by omega⟩, hsm, ?_⟩
    simp
end Go.Proofs.Ytmgkeeefbfefgaa
end
section
namespace Go.Proofs.Ytmgkeeefbfefgaa
open Go Go.Proofs Go.Eng Go.Run Tab
set_option maxRecDepth 100000
set_option linter.unusedSimpArgs false
set_option linter.unusedVariables false
set_option linter.defProp false
set_option maxHeartbeats 1000000
set_option linter.defProp false
def M5Fs50 := (And.intro (And.intro (And.intro (And.intro @agg22 @agg3) (And.intro @agg58 (And.intro @agg68 @by58))) (And.intro (And.intro @fo24_2 (And.intro @fo58_0 @fo58_1)) (And.intro @fo99_0 (And.intro @inf22 @inf3)))) (And.intro (And.intro (And.intro @inf58 @inf68) (And.intro @sz22 (And.intro @sz3 @sz58))) (And.intro (And.intro @sz68 (And.intro @zero58 @zero68)) (And.intro @Try.underlying22 (And.intro @Try.underlying25 @Try.underlying68)))))
def ldL (f : Nat → Nat) (S i : Nat) : List Int := (List.range S).map fun x => (MB.load f i x : Int)
def ldv (f : Nat → Nat) (S i : Nat) : List Value := Eng.ints (ldL f S i)
theorem ldL_length {f : Nat → Nat} {S i : Nat} : (ldL f S i).length = S := by simp [ldL]
theorem ldv_length {f : Nat → Nat} {S i : Nat} : (ldv f S i).length = S := by simp [ldv, Eng.ints, ldL]
theorem ldv_get {f : Nat → Nat} {S i x : Nat} (hx : x < S) : (ldv f S i)[x]? = some (.int .i64 (MB.load f i x : Nat)) := by
  simp [ldv, Eng.ints, ldL, hx]
theorem ldL_get {f : Nat → Nat} {S i x : Nat} (hx : x < S) : (ldL f S i).getD x 0 = (MB.load f i x : Nat) := by
  simp [ldL, hx, List.getD]
theorem load_succ (f : Nat → Nat) (i x : Nat) : MB.load f (i + 1) x = MB.load f i x + if f i = x then 1 else 0 := by
  unfold MB.load
  rw [MB.cnt_succ]
  simp
theorem ldv_set {f : Nat → Nat} {S i : Nat} (hf : f i < S) : splice (ldv f S i) (f i) [.int .i64 ((MB.load f i (f i) : Nat) + 1 : Int)] = ldv f S (i + 1) := by
  rw [splice_one _ _ _ (by rw [ldv_length]; exact hf)]
  refine List.ext_getElem? fun x => ?_
  rw [List.getElem?_set]
  by_cases hx : x < S
  · rw [ldv_get hx, ldv_get hx, load_succ]
    by_cases e : f i = x
    · subst e; simp [ldv_length, hf]
    · simp [e]
  · have h1 : (ldv f S i)[x]? = none := List.getElem?_eq_none (by rw [ldv_length]; omega)
    have h2 : (ldv f S (i + 1))[x]? = none := List.getElem?_eq_none (by rw [ldv_length]; omega)
    rw [h1, h2, if_neg (by omega)]
theorem ldv_zero {f : Nat → Nat} {S : Nat} : ldv f S 0 = List.replicate S (.int .i64 0) := by
  refine List.ext_getElem? fun x => ?_
  by_cases hx : x < S
  · rw [ldv_get hx]; simp [hx, MB.load, MB.cnt_zero]
  · have h1 : (ldv f S 0)[x]? = none := List.getElem?_eq_none (by rw [ldv_length]; omega)
    rw [h1]; simp; omega
theorem ldv_one {f : Nat → Nat} {S i : Nat} : (ldv f S i).all Go.Eng.one = true := by
  rw [List.all_eq_true]
  intro v hv
  simp only [ldv, Eng.ints, List.mem_map] at hv
  obtain ⟨x, _, rfl⟩ := hv
  rfl
theorem load_bound (f : Nat → Nat) (i x : Nat) : MB.load f i x ≤ i := MB.cnt_le _ _
theorem loads50 (g b S M : Nat) (a : Option Addr) (n c : Nat) (ws : List Wn) (h : Eng.Heap) (hg : DeskB h g b S M a n c) (hr : Row h a (wsV ws)) (hn : n = ws.length) (V : Vb S M ws) :
    CallsH Try.prog 50 #[.pointer (some ⟨g, 0, none⟩)] h (fun v h' => v = .tuple #[.agg (ldv (shN ws) 6 n).toArray, .agg (ldv (moN ws) 6 n).toArray] ∧ Ext h h') := by
  unfold DeskB at hg
  have hgl := lt_of_get hg
  (refine CallsH_of_exec Try.func50 rfl bod50 ?_; simp only [Try.ntmps50, Try.results50, coreS, stK_some, splice, Value.cells, Value.oneCell', Nat.reduceAdd, Nat.reduceSub, Nat.reduceMul, Nat.reduceLeDiff, Int.reduceEq, Nat.reduceEqDiff, M5Fs50])
  have z6 : (((6 : Nat) : Int) = ((0 : Nat) : Int)) = False := by simp
  have f6 : (((6 : Nat) : Int) - ((0 : Nat) : Int)).toNat = 6 := by decide
  have nine : ∀ {x : Nat}, ¬ (h.size + x + 1 = h.size + x) := by intro x; omega
  obtain ⟨Z, hZ⟩ : ∃ Z : Obj, Z = .cells #[.int .i64 0, .int .i64 0, .int .i64 0, .int .i64 0, .int .i64 0, .int .i64 0] 68 := ⟨_, rfl⟩
  simp only [z6, f6, if_false, ← hZ]
  refine ⟨by omega, by omega, by omega, by omega, ?_⟩
  obtain ⟨h0, hh0⟩ : ∃ h0, h0 = (((h.push Z).push Z).push Z).push Z := ⟨_, rfl⟩
  have s0 : h0.size = h.size + 4 := by rw [hh0]; simp
  have x0 : Ext h h0 := by rw [hh0]; exact ((((Ext.refl h).push _).push _).push _).push _
  have q0 : h0[h.size]? = some Z := by rw [hh0]; exact push_old (push_old (push_old push_new))
  have q1 : h0[h.size + 1]? = some Z := by rw [hh0]; exact push_old (push_old pn1)
  have q2 : h0[h.size + 1 + 1]? = some Z := by rw [hh0, Array.getElem?_push, if_neg (by simp), Array.getElem?_push, if_pos (by simp)]
  have q3 : h0[h.size + 1 + 1 + 1]? = some Z := by rw [hh0, Array.getElem?_push, if_pos (by simp)]
  rw [← hh0]
  clear hh0
  subst hZ
  have zz : ∀ f, splice (List.replicate 6 (.int .i64 0)) 0 (List.replicate 6 (.int .i64 0)) = ldv f 6 0 := fun f => by rw [ldv_zero]; rfl
  refine clear_intsT (g := h.size + 1 + 1) (off := 0) (n := 6) (c := 6) (z := 0) (ct := 68) (cur := List.replicate 6 (.int .i64 0)) Try.underlying25 zero3 (by rfl) q2 (by simp) fun h1 g1 u1 => ?_
  rw [zz (shN ws)] at g1
  simp only [z6, f6, if_false, coreS, Value.cells, Value.oneCell', Nat.reduceAdd, Nat.reduceSub, Nat.reduceMul, Nat.reduceLeDiff, Int.reduceEq, Nat.reduceEqDiff, M5Fs50]
  refine ⟨by omega, by omega, by omega, by omega, ?_⟩
  refine clear_intsT (g := h.size + 1 + 1 + 1) (off := 0) (n := 6) (c := 6) (z := 0) (ct := 68) (cur := List.replicate 6 (.int .i64 0)) Try.underlying25 zero3 (by rfl) (u1.get q3 (by omega)) (by simp) fun h2 g2 u2 => ?_
  rw [zz (moN ws)] at g2
  have e1 := u2.get g1 (by omega)
  have p0 := u2.get (u1.get q0 (by omega)) (by omega)
  have p1 := u2.get (u1.get q1 (by omega)) (by omega)
  have x2 : Ext h h2 := u2.ext (u1.ext x0 (by omega)) (by omega)
  have hs2 : h2.size = h.size + 4 := by rw [u2.size, u1.size, s0]
  clear u1 u2 g1 q0 q1 q2 q3 x0
  have hg2 := x2.get hg
  simp only [hg2, coreS, Value.cells, Value.oneCell', Nat.reduceAdd, Nat.reduceSub, Nat.reduceMul, Nat.reduceLeDiff, Int.reduceEq, Nat.reduceEqDiff, M5Fs50]
  refine WP_loopI [7, 16, 17, 18, 19, 20, 21, 22, 23, 24, 25, 26, 27, 28, 29, 30, 31, 32] (fun e h' => Ext h h' ∧ ∃ i : Nat, i ≤ n ∧ e 16 = .int .i64 i ∧ h'[h.size]? = some (.cells #[.int .i64 0, .int .i64 0, .int .i64 0, .int .i64 0, .int .i64 0, .int .i64 0] 68) ∧ h'[h.size + 1]? = some (.cells #[.int .i64 0, .int .i64 0, .int .i64 0, .int .i64 0, .int .i64 0, .int .i64 0] 68) ∧ h'[h.size + 1 + 1]? = some (.cells (ldv (shN ws) 6 i).toArray 68) ∧ h'[h.size + 1 + 1 + 1]? = some (.cells (ldv (moN ws) 6 i).toArray 68)) (fun e _ => match e 16 with | .int _ q => n - q.toNat | _ => 0) ⟨x2, 0, by omega, rfl, p0, p1, e1, g2⟩ ?_
  rintro e h' ⟨x, i, hi, he, r0, r1, r2, r3⟩
  by_cases hin : i < ws.length
  · have hlt : (i : Int) < (n : Int) := by omega
    have hc := rowW (hr.ext x) hin
    have hsm := rowW_some hr hin
    have hs := V.s hin
    have hm := V.m hin
    have hs6 := V.s2
    have hm6 := V.m2
    rw [hs.1, hm.1] at hc
    have hl := lt_of_get r3
    have d1 : ¬ (h.size + 1 + 1 = h'.size) := by omega
    have d2 : ¬ (h.size + 1 + 1 + 1 = h'.size) := by omega
    have k1 := ldv_get (f := shN ws) (S := 6) (i := i) (x := shN ws i) (by omega)
    have k2 := ldv_get (f := moN ws) (S := 6) (i := i) (x := moN ws i) (by omega)
    simp only [he, hlt, hc, decide_true, Int.toNat_natCast, coreS, Value.cells, Value.oneCell', Nat.reduceAdd, Nat.reduceSub, Nat.reduceMul, Nat.reduceLeDiff, Int.reduceEq, Nat.reduceEqDiff, M5Fs50]
    refine ⟨by omega, hsm, ?_⟩
    refine stK_abs (c := [.int .i64 0, .int .i64 0]) push_new (by simp) fun h3 g3 u3 => ?_
    simp only [splice, List.take, List.drop, List.nil_append, List.append_nil, List.length_cons, List.length_nil, Nat.zero_add] at g3
    have w0 := u3.get (push_old r0) (by omega)
    have w1 := u3.get (push_old r1) (by omega)
    have w2 := u3.get (push_old r2) (by omega)
    have w3 := u3.get (push_old r3) (by omega)
    have y3 : Ext h h3 := u3.ext (x.push _) x.size
    simp only [g3, w2, k1, Int.toNat_natCast, coreS, Value.cells, Value.oneCell', Nat.reduceAdd, Nat.reduceSub, Nat.reduceMul, Nat.reduceLeDiff, Int.reduceEq, Nat.reduceEqDiff, M5Fs50]
    have lb1 := load_bound (shN ws) i (shN ws i)
    have lb2 := load_bound (moN ws) i (moN ws i)
    have V3 := V.n
    refine ⟨⟨by omega, by omega⟩, by rw [inK_i64]; omega, ⟨by omega, by omega⟩, ?_⟩
    refine stK_abs w2 (by simp [ldv_length]; omega) fun h4 g4 u4 => ?_
    rw [ldv_set (by omega)] at g4
    have z0 := u4.get w0 (by omega)
    have z1 := u4.get w1 (by omega)
    have z3 := u4.get w3 (by omega)
    have z4 := u4.get g3 (by omega)
    have y4 : Ext h h4 := u4.ext y3 (by omega)
    simp only [z3, z4, k2, Int.toNat_natCast, coreS, Value.cells, Value.oneCell', Nat.reduceAdd, Nat.reduceSub, Nat.reduceMul, Nat.reduceLeDiff, Int.reduceEq, Nat.reduceEqDiff, M5Fs50]
    refine ⟨⟨by omega, by omega⟩, by rw [inK_i64]; omega, ⟨by omega, by omega⟩, ?_⟩
    refine stK_abs z3 (by simp [ldv_length]; omega) fun h5 g5 u5 => ?_
    rw [ldv_set (by omega)] at g5
    simp only [coreS, Value.cells, Value.oneCell', Nat.reduceAdd, Nat.reduceSub, Nat.reduceMul, Nat.reduceLeDiff, Int.reduceEq, Nat.reduceEqDiff, M5Fs50]
    refine ⟨by rw [inK_i64]; omega, roundK_mk (by kernel_rfl) ⟨u5.ext y4 (by omega), i + 1, by omega, rfl, u5.get z0 (by omega), u5.get z1 (by omega), u5.get g4 (by omega), g5⟩ ?_⟩
    show n - ((i : Int) + 1).toNat < n - (i : Int).toNat
    omega
  · obtain rfl : i = n := by omega
    have hlt : ¬ ((i : Int) < (i : Int)) := by omega
    have V3 := V.n
    simp only [he, hlt, decide_false, coreS, Value.cells, Value.oneCell', Nat.reduceAdd, Nat.reduceSub, Nat.reduceMul, Nat.reduceLeDiff, Int.reduceEq, Nat.reduceEqDiff, M5Fs50]
    refine WP_tree (by kernel_rfl) sta_eq (.quiet 0 (.fork2 1 2 true false (.one 2 (.one 3 (.fin))) (.quiet 1 (.one 3 (.fin))))) (by kernel_rfl) rfl (by kernel_rfl) ?_
    have t1 : List.take 6 (ldv (shN ws) 6 i) = ldv (shN ws) 6 i := List.take_of_length_le (by rw [ldv_length]; exact Nat.le_refl _)
    have t2 : List.take 6 (ldv (moN ws) 6 i) = ldv (moN ws) 6 i := List.take_of_length_le (by rw [ldv_length]; exact Nat.le_refl _)
    have l1 : 0 + 6 ≤ (ldv (shN ws) 6 i).length := by rw [ldv_length]; omega
    have l2 : 0 + 6 ≤ (ldv (moN ws) 6 i).length := by rw [ldv_length]; omega
    have c1 := cesO_cells (c := ldv (shN ws) 6 i) (ct := 68) (fr := (0, 0)) l1
    have c2 := cesO_cells (c := ldv (moN ws) 6 i) (ct := 68) (fr := (0, 0)) l2
    simp only [List.drop_zero, t1, t2] at c1 c2
    have sp : ∀ f : Nat → Nat, splice [.int .i64 0, .int .i64 0, .int .i64 0, .int .i64 0, .int .i64 0, .int .i64 0] 0 (ldv f 6 i) = ldv f 6 i := fun f => by
      simp [splice, ldv_length]
    simp only [r2, c1, coreS, Value.cells, Value.oneCell', Nat.reduceAdd, Nat.reduceSub, Nat.reduceMul, Nat.reduceLeDiff, Int.reduceEq, Nat.reduceEqDiff, drawS, treeS, M5Fs50]
    have hl := lt_of_get r3
    have k1 := cesO_cells (c := ldv (shN ws) 6 i) (ct := 68) (fr := (0, 0)) l1
    have k2 := cesO_cells (c := ldv (moN ws) 6 i) (ct := 68) (fr := (0, 0)) l2
    simp only [List.drop_zero, t1, t2] at k1 k2
    refine execT_fork2E ?_ ?_
    · simp only [r3, c2, coreS, Value.cells, Value.oneCell', Nat.reduceAdd, Nat.reduceSub, Nat.reduceMul, Nat.reduceLeDiff, Int.reduceEq, Nat.reduceEqDiff, drawS, treeS, M5Fs50]
      refine ⟨rfl, ?_⟩
      refine execT_oneE ?_
      simp only [r0, ldv_length, ldv_one, List.size_toArray, List.toList_toArray, coreS, Value.cells, Value.oneCell', Nat.reduceAdd, Nat.reduceSub, Nat.reduceMul, Nat.reduceLeDiff, Int.reduceEq, Nat.reduceEqDiff, drawS, treeS, M5Fs50]
      refine stK_abs r0 (by simp [ldv_length]) fun h4 g4 u4 => ?_
      rw [sp] at g4
      refine execT_oneE ?_
      have r1' := u4.get r1 (by omega)
      simp only [r1', ldv_length, ldv_one, List.size_toArray, List.toList_toArray, coreS, Value.cells, Value.oneCell', Nat.reduceAdd, Nat.reduceSub, Nat.reduceMul, Nat.reduceLeDiff, Int.reduceEq, Nat.reduceEqDiff, drawS, treeS, M5Fs50]
      refine stK_abs r1' (by simp [ldv_length]) fun h5 g5 u5 => ?_
      rw [sp] at g5
      have g4' := u5.get g4 (by omega)
      refine execT_finE ?_
      simp only [g4', g5, k1, k2, coreS, Value.cells, Value.oneCell', Nat.reduceAdd, Nat.reduceSub, Nat.reduceMul, Nat.reduceLeDiff, Int.reduceEq, Nat.reduceEqDiff, M5Fs50]
      exact u5.ext (u4.ext x (by omega)) (by omega)
    · simp only [r0, ldv_length, ldv_one, List.size_toArray, List.toList_toArray, coreS, Value.cells, Value.oneCell', Nat.reduceAdd, Nat.reduceSub, Nat.reduceMul, Nat.reduceLeDiff, Int.reduceEq, Nat.reduceEqDiff, drawS, treeS, M5Fs50]
      refine stK_abs r0 (by simp [ldv_length]) fun h4 g4 u4 => ?_
      rw [sp] at g4
      have r1' := u4.get r1 (by omega)
      have r3' := u4.get r3 (by omega)
      simp only [r3', c2, coreS, Value.cells, Value.oneCell', Nat.reduceAdd, Nat.reduceSub, Nat.reduceMul, Nat.reduceLeDiff, Int.reduceEq, Nat.reduceEqDiff, drawS, treeS, M5Fs50]
      first | refine ⟨fun hh => by cases hh, ?_⟩ | skip
      refine execT_oneE ?_
      simp only [r1', ldv_length, ldv_one, List.size_toArray, List.toList_toArray, coreS, Value.cells, Value.oneCell', Nat.reduceAdd, Nat.reduceSub, Nat.reduceMul, Nat.reduceLeDiff, Int.reduceEq, Nat.reduceEqDiff, drawS, treeS, M5Fs50]
      refine stK_abs r1' (by simp [ldv_length]) fun h5 g5 u5 => ?_
      rw [sp] at g5
      have g4' := u5.get g4 (by omega)
      refine execT_finE ?_
      simp only [g4', g5, k1, k2, coreS, Value.cells, Value.oneCell', Nat.reduceAdd, Nat.reduceSub, Nat.reduceMul, Nat.reduceLeDiff, Int.reduceEq, Nat.reduceEqDiff, M5Fs50]
      exact u5.ext (u4.ext x (by omega)) (by omega)
end Go.Proofs.Ytmgkeeefbfefgaa
end
section
set_option linter.unusedVariables false
set_option linter.unusedSimpArgs false
namespace Go.Eng
open Go
theorem WP_cut {l : Option Nat} {P : Program} {c : Code} {n : Env → List Deferred → Heap → Prop} {k : Cont} {e : Env} {d : List Deferred} {h : Heap} (ws : List Nat) (I : (Nat → Value) → Heap → Prop)
    (H : WP l P c (thenK (midK e d ws I) k) e d h) (Hn : ∀ g h', I g h' → n (mkE e ws g) d h') : WP l P c (thenK n k) e d h :=
  WP_mono (thenK_mono (fun e' d' h' hmid => by
    unfold midK at hmid
    obtain ⟨h1, h2, h3⟩ := hmid
    subst h1
    rw [h2]
    exact Hn _ _ h3) (fun _ _ _ _ h => h)) H
section pureR
variable {P : Program} {k : Cont} {d : List Deferred} {h : Heap}
end pureR
end Go.Eng
end
section
namespace Go.Proofs.Ytmgkeeefbfefgaa
open Go Go.Proofs Go.Eng Go.Run Tab
set_option maxRecDepth 100000
set_option linter.unusedSimpArgs false
set_option linter.unusedVariables false
set_option linter.defProp false
set_option maxHeartbeats 1000000
set_option linter.defProp false
def M6Fs19 := (And.intro @agg24 (And.intro @inf24 @sz24))
def M6Fs51 := (And.intro (And.intro (And.intro (And.intro @agg22 @agg3) (And.intro @by3 @by58)) (And.intro (And.intro @fo24_0 @fo24_1) (And.intro @fo24_2 (And.intro @fo58_0 @fo58_1)))) (And.intro (And.intro (And.intro @inf22 @inf3) (And.intro @inf58 @sz22)) (And.intro (And.intro @sz3 @sz58) (And.intro @zero3 (And.intro @Try.underlying22 @Try.underlying25)))))
def TwoZ (m : Nat) (h' : Eng.Heap) (v w : Value) (S M : Nat) : Prop := ∃ p q, v = .slice (some ⟨p, 0, none⟩) S S ∧ w = .slice (some ⟨q, 0, none⟩) M M ∧ p ≠ q ∧ m ≤ p ∧ m ≤ q ∧ h'[p]? = some (.cells (List.replicate S (.int .i64 0)).toArray 3) ∧ h'[q]? = some (.cells (List.replicate M (.int .i64 0)).toArray 3)
theorem loadsOf51 (S M : Nat) (a : Option Addr) (n c : Nat) (ws : List Wn) (h : Eng.Heap) (hr : Row h a (wsV ws)) (hn : n = ws.length) (V : Vb S M ws) :
    CallsH Try.prog 51 #[.agg #[.int .i64 S, .int .i64 M, .slice a n c]] h (fun v h' => (∃ p q, v = .tuple #[.slice (some ⟨p, 0, none⟩) S S, .slice (some ⟨q, 0, none⟩) M M] ∧ p ≠ q ∧ h.size ≤ p ∧ h.size ≤ q ∧ h'[p]? = some (.cells (ldv (shN ws) S n).toArray 3) ∧ h'[q]? = some (.cells (ldv (moN ws) M n).toArray 3)) ∧ Ext h h') := by
  have hb0 := push_new (h := h) (o := .cells #[.int .i64 S, .int .i64 M, .slice a n c] 24)
  have x0 : Ext h (h.push (.cells #[.int .i64 S, .int .i64 M, .slice a n c] 24)) := (Ext.refl h).push _
  have V1 := V.s1
  have V2 := V.s2
  have V3 := V.m1
  have V4 := V.m2
  (refine CallsH_of_exec Try.func51 rfl bod51 ?_; simp only [Try.ntmps51, Try.results51, coreS, stK_some, splice, Value.cells, Value.oneCell', Nat.reduceAdd, Nat.reduceSub, Nat.reduceMul, Nat.reduceLeDiff, Int.reduceEq, Nat.reduceEqDiff, M6Fs51])
  generalize h.push (.cells #[.int .i64 S, .int .i64 M, .slice a n c] 24) = h0 at hb0 x0 ⊢
  refine WP_cut [4, 5, 7, 8, 9, 10, 11, 12] (fun g h' => TwoZ h0.size h' (g 4) (g 5) S M ∧ Ext h0 h') ?_ ?_
  · refine WP_tree (by kernel_rfl) sta_ext (.quiet 0 (.quiet 1 (.quiet 3 (.quiet 4 (.fork2 2 5 true true (.quiet 6 (.keep 5 (.quiet 7 (.fin)))) (.keep 2 (.quiet 6 (.quiet 7 (.fin))))))))) (by kernel_rfl) rfl (by kernel_rfl) ?_
    simp only [hb0, coreS, Value.cells, Value.oneCell', Nat.reduceAdd, Nat.reduceSub, Nat.reduceMul, Nat.reduceLeDiff, Int.reduceEq, Nat.reduceEqDiff, drawS, treeS, M6Fs51]
    refine execT_fork2 fun h1 x1 => ⟨?_, ?_⟩
    · simp only [List.flatten_replicate_singleton, coreS, Value.cells, Value.oneCell', Nat.reduceAdd, Nat.reduceSub, Nat.reduceMul, Nat.reduceLeDiff, Int.reduceEq, Nat.reduceEqDiff, drawS, treeS, M6Fs51]
      repeat (first | refine And.intro (by omega) ?_ | refine And.intro ((Ext.refl _).push _) ?_ | refine And.intro (fun _ => (Ext.refl _).push _) ?_)
      refine execT_keep fun h2 x2 => ?_
      simp only [List.flatten_replicate_singleton, coreS, Value.cells, Value.oneCell', Nat.reduceAdd, Nat.reduceSub, Nat.reduceMul, Nat.reduceLeDiff, Int.reduceEq, Nat.reduceEqDiff, drawS, treeS, M6Fs51]
      repeat (first | refine And.intro (by omega) ?_ | refine And.intro ((Ext.refl _).push _) ?_ | refine And.intro (fun _ => (Ext.refl _).push _) ?_)
      refine execT_fin fun h3 x3 => ?_
      have s2 := x2.size
      rw [push_size] at s2
      have s1 := x1.size
      simp only [thenK_normal]
      exact midK_mk (by kernel_rfl) ⟨⟨h1.size, h2.size, rfl, rfl, by omega, s1, by omega, x3.get (push_old (x2.get push_new)), x3.get push_new⟩, ((x1.push _).trans x2).trans (x3.of_push)⟩
    · simp only [List.flatten_replicate_singleton, coreS, Value.cells, Value.oneCell', Nat.reduceAdd, Nat.reduceSub, Nat.reduceMul, Nat.reduceLeDiff, Int.reduceEq, Nat.reduceEqDiff, drawS, treeS, M6Fs51]
      repeat (first | refine And.intro (by omega) ?_ | refine And.intro ((Ext.refl _).push _) ?_ | refine And.intro (fun _ => (Ext.refl _).push _) ?_)
      refine execT_keep fun h2 x2 => ?_
      simp only [List.flatten_replicate_singleton, coreS, Value.cells, Value.oneCell', Nat.reduceAdd, Nat.reduceSub, Nat.reduceMul, Nat.reduceLeDiff, Int.reduceEq, Nat.reduceEqDiff, drawS, treeS, M6Fs51]
      repeat (first | refine And.intro (by omega) ?_ | refine And.intro ((Ext.refl _).push _) ?_ | refine And.intro (fun _ => (Ext.refl _).push _) ?_)
      refine execT_fin fun h3 x3 => ?_
      have s2 := x2.size
      rw [push_size] at s2
      have s1 := x1.size
      simp only [thenK_normal]
      exact midK_mk (by kernel_rfl) ⟨⟨h2.size, h1.size, rfl, rfl, by omega, by omega, s1, x3.get push_new, x3.get (push_old (x2.get push_new))⟩, ((x1.push _).trans x2).trans (x3.of_push)⟩
  · rintro e0 h1 ⟨⟨p, q, e4, e5, hpq, hp, hq, hzp, hzq⟩, x1⟩
    have hb1 := x1.get hb0
    have y1 := x0.trans x1
    have s01 := x0.size
    have sh0 := lt_of_get hb0
    rw [← ldv_zero (f := shN ws)] at hzp
    rw [← ldv_zero (f := moN ws)] at hzq
    simp only [e4, e5, coreS, Value.cells, Value.oneCell', Nat.reduceAdd, Nat.reduceSub, Nat.reduceMul, Nat.reduceLeDiff, Int.reduceEq, Nat.reduceEqDiff, M6Fs51]
    refine WP_loopI [6, 13, 14, 15, 16, 17, 18, 19, 20, 21, 22, 23, 24, 25, 26, 27, 28, 29, 30, 31, 32, 33, 34, 35, 36, 37, 38, 39, 40, 41] (fun e h' => Ext h0 h' ∧ ∃ i : Nat, i ≤ n ∧ e 6 = .int .i64 i ∧ h'[p]? = some (.cells (ldv (shN ws) S i).toArray 3) ∧ h'[q]? = some (.cells (ldv (moN ws) M i).toArray 3)) (fun e _ => match e 6 with | .int _ q => n - q.toNat | _ => 0) ⟨x1, 0, by omega, rfl, hzp, hzq⟩ ?_
    rintro e h' ⟨x, i, hi, he, r2, r3⟩
    have hb' := x.get hb0
    by_cases hin : i < ws.length
    · have hlt : (i : Int) < (n : Int) := by omega
      have hr' := hr.ext (x0.trans x)
      have fa := faR hr' hin
      have c0 := cellW0 hr' hin
      have c1 := cellW1 hr' hin
      have hsm := rowW_some hr hin
      have hs := V.s hin
      have hm := V.m hin
      rw [hs.1] at c0
      rw [hm.1] at c1
      have k1 := ldv_get (f := shN ws) (S := S) (i := i) (x := shN ws i) hs.2
      have k2 := ldv_get (f := moN ws) (S := M) (i := i) (x := moN ws i) hm.2
      have lb1 := load_bound (shN ws) i (shN ws i)
      have lb2 := load_bound (moN ws) i (moN ws i)
      have V3 := V.n
      simp only [he, hlt, hb', fa, c0, r2, k1, decide_true, Int.toNat_natCast, coreS, Value.cells, Value.oneCell', Nat.reduceAdd, Nat.reduceSub, Nat.reduceMul, Nat.reduceLeDiff, Int.reduceEq, Nat.reduceEqDiff, M6Fs51]
      have hpl := lt_of_get r2
      refine ⟨by omega, hsm, ⟨by omega, by omega⟩, rfl, by rw [inK_i64]; omega, ⟨by omega, by omega⟩, rfl, ?_⟩
      refine stK_abs r2 (by simp [ldv_length]; omega) fun h4 g4 u4 => ?_
      rw [ldv_set (by omega)] at g4
      have z3 := u4.get r3 (by omega)
      have y4 : Ext h0 h4 := u4.ext x (by omega)
      have hr4 := hr.ext (x0.trans y4)
      have c1 := cellW1 hr4 hin
      rw [hm.1] at c1
      simp only [y4.get hb0, fa, c1, z3, k2, Int.toNat_natCast, coreS, Value.cells, Value.oneCell', Nat.reduceAdd, Nat.reduceSub, Nat.reduceMul, Nat.reduceLeDiff, Int.reduceEq, Nat.reduceEqDiff, M6Fs51]
      refine ⟨⟨by omega, by omega⟩, hsm, ⟨by omega, by omega⟩, rfl, by rw [inK_i64]; omega, ⟨by omega, by omega⟩, rfl, ?_⟩
      refine stK_abs z3 (by simp [ldv_length]; omega) fun h5 g5 u5 => ?_
      rw [ldv_set (by omega)] at g5
      simp only [he, coreS, Value.cells, Value.oneCell', Nat.reduceAdd, Nat.reduceSub, Nat.reduceMul, Nat.reduceLeDiff, Int.reduceEq, Nat.reduceEqDiff, M6Fs51]
      refine ⟨by rw [inK_i64]; omega, roundK_mk (by kernel_rfl) ⟨u5.ext y4 (by omega), i + 1, by omega, rfl, u5.get g4 (by omega), g5⟩ ?_⟩
      show n - ((i : Int) + 1).toNat < n - (i : Int).toNat
      omega
    · obtain rfl : i = n := by omega
      have hlt : ¬ ((i : Int) < (i : Int)) := by omega
      simp only [he, hlt, hb', decide_false, coreS, Value.cells, Value.oneCell', Nat.reduceAdd, Nat.reduceSub, Nat.reduceMul, Nat.reduceLeDiff, Int.reduceEq, Nat.reduceEqDiff, M6Fs51]
      exact ⟨⟨p, q, rfl, hpq, by omega, by omega, r2, r3⟩, x0.trans x⟩
structure LoadsP (S M : Int) (ws : List Wn) (h0 : Nat) (h' : Eng.Heap) (v : Value) : Prop where
  ok : ∀ s m : Nat, S = s → M = m → Vb s m ws → ∃ p q, v = .tuple #[.slice (some ⟨p, 0, none⟩) s s, .slice (some ⟨q, 0, none⟩) m m, .int .i64 0] ∧ p ≠ q ∧ h0 ≤ p ∧ h0 ≤ q ∧ h'[p]? = some (.cells (ldv (shN ws) s ws.length).toArray 3) ∧ h'[q]? = some (.cells (ldv (moN ws) m ws.length).toArray 3)
  no : chk S M ws ≠ 0 → v = .tuple #[.slice none 0 0, .slice none 0 0, .int .i64 (chk S M ws)]
theorem loads19 (S M : Int) (a : Option Addr) (n c : Nat) (ws : List Wn) (h : Eng.Heap) (hr : Row h a (wsV ws)) (hn : n = ws.length) (hl : n ≤ 1000000) :
    CallsH Try.prog 19 #[.agg #[.int .i64 S, .int .i64 M, .slice a n c]] h (fun v h' => LoadsP S M ws h.size h' v ∧ Ext h h') := by
  (refine CallsH_of_exec Try.func19 rfl bod19 ?_; simp only [Try.ntmps19, Try.results19, coreS, stK_some, splice, Value.cells, Value.oneCell', Nat.reduceAdd, Nat.reduceSub, Nat.reduceMul, Nat.reduceLeDiff, Int.reduceEq, Nat.reduceEqDiff, M6Fs19])
  have x0 : Ext h (h.push (.cells #[.int .i64 S, .int .i64 M, .slice a n c] 24)) := (Ext.refl h).push _
  refine CallsH.mono (check23 S M a n c ws _ (hr.push _) hn hl) ?_
  rintro v h1 ⟨rfl, x1⟩
  have hb1 := x1.get (push_new (h := h))
  have y1 := x0.trans x1
  by_cases hc : chk S M ws = 0
  · obtain ⟨s, m, rfl, rfl, V⟩ := chk_ok hc
    simp only [hc, hb1, Bool.not_true, decide_true, coreS, Value.cells, Value.oneCell', Nat.reduceAdd, Nat.reduceSub, Nat.reduceMul, Nat.reduceLeDiff, Int.reduceEq, Nat.reduceEqDiff, M6Fs19]
    refine CallsH.mono (loadsOf51 s m a n c ws h1 (hr.ext y1) hn V) ?_
    rintro v h2 ⟨⟨p, q, rfl, e1, e2, e3, e4, e5⟩, x2⟩
    simp only [coreS, Value.cells, Value.oneCell', Nat.reduceAdd, Nat.reduceSub, Nat.reduceMul, Nat.reduceLeDiff, Int.reduceEq, Nat.reduceEqDiff, M6Fs19]
    have := y1.size
    refine ⟨⟨fun s' m' hs hm V' => ?_, fun hne => absurd hc hne⟩, y1.trans x2⟩
    obtain rfl : s = s' := by omega
    obtain rfl : m = m' := by omega
    subst hn
    exact ⟨p, q, rfl, e1, by omega, by omega, e4, e5⟩
  · simp only [hc, hb1, decide_false, Bool.not_false, coreS, Value.cells, Value.oneCell', Nat.reduceAdd, Nat.reduceSub, Nat.reduceMul, Nat.reduceLeDiff, Int.reduceEq, Nat.reduceEqDiff, M6Fs19]
    refine CallsH.mono (check23 S M a n c ws _ (hr.ext y1) hn hl) ?_
    rintro v h2 ⟨rfl, x2⟩
    simp only [coreS, Value.cells, Value.oneCell', Nat.reduceAdd, Nat.reduceSub, Nat.reduceMul, Nat.reduceLeDiff, Int.reduceEq, Nat.reduceEqDiff, M6Fs19]
    refine ⟨⟨fun s' m' hs hm V' => ?_, fun hne => rfl⟩, y1.trans x2⟩
    subst hs hm
    exact absurd V'.chk hc
end Go.Proofs.Ytmgkeeefbfefgaa
end
section
namespace Go.Proofs.Ytmgkeeefbfefgaa
open Go Go.Proofs Go.Eng Go.Run Tab
set_option maxRecDepth 100000
set_option linter.unusedSimpArgs false
set_option linter.unusedVariables false
set_option linter.defProp false
set_option maxHeartbeats 1000000
set_option linter.defProp false
def M7Fs18 := (And.intro (And.intro (And.intro (And.intro @agg24 @agg3) (And.intro @agg68 @by3)) (And.intro (And.intro @fo24_0 @fo24_1) (And.intro @inf24 @inf3))) (And.intro (And.intro (And.intro @inf68 @sz24) (And.intro @sz3 @sz68)) (And.intro (And.intro @zero3 @zero68) (And.intro @Try.underlying25 @Try.underlying68))))
theorem ldL_take {f : Nat → Nat} {S i : Nat} (hS : S ≤ 6) : (ldL f 6 i).take S = ldL f S i := by
  unfold ldL
  rw [← List.map_take, List.take_range, Nat.min_eq_left hS]
theorem cpy_ld {f : Nat → Nat} {S i : Nat} (hS : S ≤ 6) : splice (List.replicate S (.int .i64 0)) 0 (Eng.ints ((ldL f 6 i).take S)) = ldv f S i := by
  rw [ldL_take hS]
  simp [splice, ldv, Eng.ints, ldL]
theorem cpy25 {h : Eng.Heap} {er : Env} {ty : TypeId} {x y : Operand} {b : Option Addr} {g off n c m c2 : Nat} {cur : List Value} {ys : List Int} {K : Value → Eng.Heap → Prop} (hx : ev er x = .slice (some ⟨g, off, none⟩) n c) (hy : ev er y = .slice b m c2) (hb : h[g]? = some (.cells cur.toArray 3 (0, 0))) (hl : off + n ≤ cur.length) (I : IntsV h b m ys)
    (H : ∀ h', h'[g]? = some (.cells (splice cur off (Eng.ints (ys.take n))).toArray 3 (0, 0)) → Upd h h' g → K (.int .i64 (min m n : Nat)) h') : opSem Try.prog (.call ⟨.builtin .copy, #[x, y], #[25, 25]⟩) ty er h K :=
  copy_intsT Try.underlying25 Try.underlying25 inf3 sz3 hx hy hb hl I H
theorem loads18 (S M : Int) (a : Option Addr) (n c : Nat) (ws : List Wn) (h : Eng.Heap) (hr : Row h a (wsV ws)) (hn : n = ws.length) (hl : n ≤ 1000000) :
    CallsH Try.prog 18 #[.agg #[.int .i64 S, .int .i64 M, .slice a n c]] h (fun v h' => LoadsP S M ws h.size h' v ∧ Ext h h') := by
  (refine CallsH_of_exec Try.func18 rfl bod18 ?_; simp only [Try.ntmps18, Try.results18, coreS, stK_some, splice, Value.cells, Value.oneCell', Nat.reduceAdd, Nat.reduceSub, Nat.reduceMul, Nat.reduceLeDiff, Int.reduceEq, Nat.reduceEqDiff, M7Fs18])
  have x0 : Ext h (h.push (.cells #[.int .i64 S, .int .i64 M, .slice a n c] 24)) := (Ext.refl h).push _
  refine CallsH.mono (open49 S M a n c ws _ (hr.push _) hn hl) ?_
  rintro v h1 ⟨x1, ⟨s, m, rfl, rfl, V, g, b, rfl, hg, hmb, hgs, hbs⟩ | ⟨hc, rfl⟩⟩
  · have hb1 := x1.get (push_new (h := h))
    have y1 := x0.trans x1
    simp only [hb1, Bool.not_true, decide_true, coreS, Value.cells, Value.oneCell', Nat.reduceAdd, Nat.reduceSub, Nat.reduceMul, Nat.reduceLeDiff, Int.reduceEq, Nat.reduceEqDiff, M7Fs18]
    refine CallsH.mono (loads50 g b s m a n c ws h1 hg (hr.ext y1) hn V) ?_
    rintro v h2 ⟨rfl, x2⟩
    have hb2 := x2.get hb1
    have y2 := y1.trans x2
    have l1 : (ldv (shN ws) 6 n).length = 6 := ldv_length
    have l2 : (ldv (moN ws) 6 n).length = 6 := ldv_length
    have sp : ∀ f : Nat → Nat, splice [.int .i64 0, .int .i64 0, .int .i64 0, .int .i64 0, .int .i64 0, .int .i64 0] 0 (ldv f 6 n) = ldv f 6 n := fun f => by
      simp [splice, ldv_length]
    simp only [l1, l2, ldv_one, List.size_toArray, List.toList_toArray, coreS, Value.cells, Value.oneCell', Nat.reduceAdd, Nat.reduceSub, Nat.reduceMul, Nat.reduceLeDiff, Int.reduceEq, Nat.reduceEqDiff, M7Fs18]
    have p0 : ((h2.push (.cells #[.int .i64 0, .int .i64 0, .int .i64 0, .int .i64 0, .int .i64 0, .int .i64 0] 68)).push (.cells #[.int .i64 0, .int .i64 0, .int .i64 0, .int .i64 0, .int .i64 0, .int .i64 0] 68))[h2.size]? = some (.cells #[.int .i64 0, .int .i64 0, .int .i64 0, .int .i64 0, .int .i64 0, .int .i64 0] 68) := pn0
    refine stK_abs p0 (by simp [l1]) fun h3 g3 u3 => ?_
    rw [sp] at g3
    have p1 : h3[h2.size + 1]? = some (.cells #[.int .i64 0, .int .i64 0, .int .i64 0, .int .i64 0, .int .i64 0, .int .i64 0] 68) := u3.get pn1 (by omega)
    simp only [p1, l1, l2, ldv_one, List.size_toArray, List.toList_toArray, coreS, Value.cells, Value.oneCell', Nat.reduceAdd, Nat.reduceSub, Nat.reduceMul, Nat.reduceLeDiff, Int.reduceEq, Nat.reduceEqDiff, M7Fs18]
    refine stK_abs p1 (by simp [l2]) fun h4 g4 u4 => ?_
    rw [sp] at g4
    have g3' := u4.get g3 (by omega)
    have x4 : Ext h2 h4 := u4.ext (u3.ext (((Ext.refl h2).push _).push _) (by omega)) (by omega)
    have y4 := y2.trans x4
    have hb4 := x4.get hb2
    clear u3 u4 g3 p0 p1
    have hgl := lt_of_get g4
    simp only [coreS, Value.cells, Value.oneCell', Nat.reduceAdd, Nat.reduceSub, Nat.reduceMul, Nat.reduceLeDiff, Int.reduceEq, Nat.reduceEqDiff, M7Fs18]
    refine WP_cut [9, 10, 24, 25, 26, 27, 28, 29] (fun g h' => TwoZ h4.size h' (g 9) (g 10) s m ∧ Ext h4 h') ?_ ?_
    · have V1 := V.s1
      have V2 := V.s2
      have V3 := V.m1
      have V4 := V.m2
      refine WP_tree (by kernel_rfl) sta_ext (.quiet 0 (.quiet 1 (.quiet 3 (.quiet 4 (.fork2 2 5 true true (.quiet 6 (.keep 5 (.quiet 7 (.fin)))) (.keep 2 (.quiet 6 (.quiet 7 (.fin))))))))) (by kernel_rfl) rfl (by kernel_rfl) ?_
      simp only [hb4, coreS, Value.cells, Value.oneCell', Nat.reduceAdd, Nat.reduceSub, Nat.reduceMul, Nat.reduceLeDiff, Int.reduceEq, Nat.reduceEqDiff, drawS, treeS, M7Fs18]
      refine execT_fork2 fun h1 x1 => ⟨?_, ?_⟩
      · simp only [List.flatten_replicate_singleton, coreS, Value.cells, Value.oneCell', Nat.reduceAdd, Nat.reduceSub, Nat.reduceMul, Nat.reduceLeDiff, Int.reduceEq, Nat.reduceEqDiff, drawS, treeS, M7Fs18]
        repeat (first | refine And.intro (by omega) ?_ | refine And.intro ((Ext.refl _).push _) ?_ | refine And.intro (fun _ => (Ext.refl _).push _) ?_)
        refine execT_keep fun h2 x2 => ?_
        simp only [List.flatten_replicate_singleton, coreS, Value.cells, Value.oneCell', Nat.reduceAdd, Nat.reduceSub, Nat.reduceMul, Nat.reduceLeDiff, Int.reduceEq, Nat.reduceEqDiff, drawS, treeS, M7Fs18]
        repeat (first | refine And.intro (by omega) ?_ | refine And.intro ((Ext.refl _).push _) ?_ | refine And.intro (fun _ => (Ext.refl _).push _) ?_)
        refine execT_fin fun h3 x3 => ?_
        have s2 := x2.size
        rw [push_size] at s2
        have s1 := x1.size
        simp only [thenK_normal]
        exact midK_mk (by kernel_rfl) ⟨⟨h1.size, h2.size, rfl, rfl, by omega, s1, by omega, x3.get (push_old (x2.get push_new)), x3.get push_new⟩, ((x1.push _).trans x2).trans (x3.of_push)⟩
      · simp only [List.flatten_replicate_singleton, coreS, Value.cells, Value.oneCell', Nat.reduceAdd, Nat.reduceSub, Nat.reduceMul, Nat.reduceLeDiff, Int.reduceEq, Nat.reduceEqDiff, drawS, treeS, M7Fs18]
        repeat (first | refine And.intro (by omega) ?_ | refine And.intro ((Ext.refl _).push _) ?_ | refine And.intro (fun _ => (Ext.refl _).push _) ?_)
        refine execT_keep fun h2 x2 => ?_
        simp only [List.flatten_replicate_singleton, coreS, Value.cells, Value.oneCell', Nat.reduceAdd, Nat.reduceSub, Nat.reduceMul, Nat.reduceLeDiff, Int.reduceEq, Nat.reduceEqDiff, drawS, treeS, M7Fs18]
        repeat (first | refine And.intro (by omega) ?_ | refine And.intro ((Ext.refl _).push _) ?_ | refine And.intro (fun _ => (Ext.refl _).push _) ?_)
        refine execT_fin fun h3 x3 => ?_
        have s2 := x2.size
        rw [push_size] at s2
        have s1 := x1.size
        simp only [thenK_normal]
        exact midK_mk (by kernel_rfl) ⟨⟨h2.size, h1.size, rfl, rfl, by omega, by omega, s1, x3.get push_new, x3.get (push_old (x2.get push_new))⟩, ((x1.push _).trans x2).trans (x3.of_push)⟩
    · rintro e0 h5 ⟨⟨p, q, e4, e5, hpq, hp, hq, hzp, hzq⟩, x5⟩
      have V2 := V.s2
      have V4 := V.m2
      have f3 := x5.get g3'
      have f4 := x5.get g4
      have z6 : (((6 : Nat) : Int) = ((0 : Nat) : Int)) = False := by simp
      have f6 : (((6 : Nat) : Int) - ((0 : Nat) : Int)).toNat = 6 := by decide
      simp only [e4, e5, f3, f4, z6, f6, if_false, coreS, Value.cells, Value.oneCell', Nat.reduceAdd, Nat.reduceSub, Nat.reduceMul, Nat.reduceLeDiff, Int.reduceEq, Nat.reduceEqDiff, M7Fs18]
      refine ⟨by omega, by omega, by omega, by omega, ?_⟩
      have i1 : IntsV h5 (some ⟨h2.size, 0, none⟩) 6 (ldL (shN ws) 6 n) := by
        have := IntsV.block (xs := ldL (shN ws) 6 n) f3
        rwa [ldL_length] at this
      refine cpy25 rfl rfl hzp (by simp) i1 fun h6 g6 u6 => ?_
      rw [cpy_ld V2] at g6
      have f4' := u6.get f4 (by omega)
      have hzq' := u6.get hzq (by omega)
      simp only [f4', z6, f6, if_false, coreS, Value.cells, Value.oneCell', Nat.reduceAdd, Nat.reduceSub, Nat.reduceMul, Nat.reduceLeDiff, Int.reduceEq, Nat.reduceEqDiff, M7Fs18]
      refine ⟨by omega, by omega, by omega, by omega, ?_⟩
      have i2 : IntsV h6 (some ⟨h2.size + 1, 0, none⟩) 6 (ldL (moN ws) 6 n) := by
        have := IntsV.block (xs := ldL (moN ws) 6 n) f4'
        rwa [ldL_length] at this
      refine cpy25 rfl rfl hzq' (by simp) i2 fun h7 g7 u7 => ?_
      rw [cpy_ld V4] at g7
      have g6' := u7.get g6 (by omega)
      simp only [coreS, Value.cells, Value.oneCell', Nat.reduceAdd, Nat.reduceSub, Nat.reduceMul, Nat.reduceLeDiff, Int.reduceEq, Nat.reduceEqDiff, M7Fs18]
      have sz := y4.size
      refine ⟨⟨fun s' m' hs hm V' => ?_, fun hne => absurd V.chk hne⟩, u7.ext (u6.ext (y4.trans x5) (by omega)) (by omega)⟩
      obtain rfl : s = s' := by omega
      obtain rfl : m = m' := by omega
      subst hn
      exact ⟨p, q, rfl, hpq, by omega, by omega, g6', g7⟩
  · have y1 := x0.trans x1
    simp only [hc, decide_false, Bool.not_false, coreS, Value.cells, Value.oneCell', Nat.reduceAdd, Nat.reduceSub, Nat.reduceMul, Nat.reduceLeDiff, Int.reduceEq, Nat.reduceEqDiff, M7Fs18]
    refine ⟨⟨fun s' m' hs hm V' => ?_, fun hne => rfl⟩, y1⟩
    subst hs hm
    exact absurd V'.chk hc
end Go.Proofs.Ytmgkeeefbfefgaa
end
section
namespace Go.Proofs.Ytmgkeeefbfefgaa
set_option linter.unusedSimpArgs false
set_option linter.unusedVariables false
set_option linter.defProp false
set_option linter.unusedSectionVars false
namespace MB
variable {sh mo c : Nat → Nat} {n D : Nat}
def two (f g : Nat → Nat) (a s : Nat) : Nat → Nat := fun i => if i < a then f i else g (i - a) + s
end MB
end Go.Proofs.Ytmgkeeefbfefgaa
end
section
namespace Go.Proofs.Ytmgkeeefbfefgaa
open Go Go.Proofs Go.Eng Go.Run Tab
set_option maxRecDepth 100000
set_option linter.unusedSimpArgs false
set_option linter.unusedVariables false
set_option linter.defProp false
set_option maxHeartbeats 1000000
set_option linter.defProp false
def M11Fs21 := (And.intro (And.intro (And.intro @agg22 (And.intro @agg24 @agg3)) (And.intro @by3 (And.intro @fo24_2 @inf22))) (And.intro (And.intro @inf24 (And.intro @inf3 @sz22)) (And.intro (And.intro @sz24 @sz3) (And.intro @Try.underlying22 @Try.underlying25))))
def M11Fs57 := (And.intro (And.intro (And.intro @agg24 @agg3) (And.intro @by3 @inf24)) (And.intro (And.intro @inf3 @sz24) (And.intro @sz3 @Try.underlying25)))
def M11Fs58 := (And.intro (And.intro @agg3 @by3) (And.intro @inf3 (And.intro @sz3 @Try.underlying25)))
def M11Fs79 := (And.intro (And.intro (And.intro @agg22 (And.intro @agg3 @by58)) (And.intro @fo24_2 (And.intro @fo58_0 @fo58_1))) (And.intro (And.intro @inf22 (And.intro @inf3 @inf58)) (And.intro (And.intro @sz22 @sz3) (And.intro @sz58 @Try.underlying22))))
theorem clash79 (S M : Nat) (a : Option Addr) (n c : Nat) (ws : List Wn) (i k : Nat) (h : Eng.Heap) (hr : Row h a (wsV ws)) (hn : n = ws.length) (V : Vb S M ws) (hi : i < ws.length) (hk : k < ws.length) :
    CallsH Try.prog 79 #[.agg #[.int .i64 S, .int .i64 M, .slice a n c], .int .i64 i, .int .i64 k] h (fun v h' => v = .bool (MB.clash (shN ws) (moN ws) i k) ∧ Ext h h') := by
  (refine CallsH_of_exec Try.func79 rfl bod79 ?_; simp only [Try.ntmps79, Try.results79, coreS, stK_some, splice, Value.cells, Value.oneCell', Nat.reduceAdd, Nat.reduceSub, Nat.reduceMul, Nat.reduceLeDiff, Int.reduceEq, Nat.reduceEqDiff, M11Fs79])
  have x0 : Ext h (h.push (.cells #[.int .i64 S, .int .i64 M, .slice a n c] 24)) := (Ext.refl h).push _
  have hr0 := hr.push (.cells #[.int .i64 S, .int .i64 M, .slice a n c] 24)
  have fa := faR hr hi
  have a0 := cellW0 hr0 hi
  have a1 := cellW1 hr0 hi
  have b0 := cellW0 hr0 hk
  have b1 := cellW1 hr0 hk
  rw [(V.s hi).1] at a0
  rw [(V.m hi).1] at a1
  rw [(V.s hk).1] at b0
  rw [(V.m hk).1] at b1
  have hsm := rowW_some hr hi
  have hcl : MB.clash (shN ws) (moN ws) i k = (decide (((shN ws i : Nat) : Int) = (shN ws k : Nat)) || decide (((moN ws i : Nat) : Int) = (moN ws k : Nat))) := by
    unfold MB.clash
    congr 1
    · rw [Bool.eq_iff_iff]; simp; omega
    · rw [Bool.eq_iff_iff]; simp; omega
  rw [hcl]
  refine WP_draw (by kernel_rfl) sta_eq [(0, 0), (1, 0), (2, 0), (3, 0), (4, 0), (5, 0), (6, 0), (7, 0), (8, 0), (9, 0), (10, 0), (11, 0), (12, 0), (13, 0), (14, 0), (15, 0), (16, 0), (17, 0), (18, 0), (19, 0), (20, 0), (21, 0), (22, 0), (23, 0), (24, 0), (25, 0), (26, 0), (27, 0), (28, 0)] (by kernel_rfl) rfl (by kernel_rfl) ?_
  by_cases h1 : ((shN ws i : Nat) : Int) = (shN ws k : Nat)
  · simp only [fa, a0, a1, b0, b1, h1, decide_true, hvK_eq, Int.toNat_natCast, coreS, Value.cells, Value.oneCell', Nat.reduceAdd, Nat.reduceSub, Nat.reduceMul, Nat.reduceLeDiff, Int.reduceEq, Nat.reduceEqDiff, drawS, M11Fs79]
    refine ⟨⟨by omega, by omega⟩, hsm, ⟨by omega, by omega⟩, hsm, ?_⟩
    exact ⟨by simp, x0⟩
  · simp only [fa, a0, a1, b0, b1, h1, decide_false, hvK_eq, Int.toNat_natCast, coreS, Value.cells, Value.oneCell', Nat.reduceAdd, Nat.reduceSub, Nat.reduceMul, Nat.reduceLeDiff, Int.reduceEq, Nat.reduceEqDiff, drawS, M11Fs79]
    refine ⟨⟨by omega, by omega⟩, hsm, ⟨by omega, by omega⟩, hsm, ⟨by omega, by omega⟩, hsm, ⟨by omega, by omega⟩, hsm, ?_⟩
    exact ⟨by simp, x0⟩
theorem cQ_same {P : Program} {f : FuncId} {args : Array Value} {h : Eng.Heap} {K : Value → Eng.Heap → Prop} (r : Value) (c : CallsH P f args h (fun v' h'' => v' = r ∧ h'' = h)) (H : K r h) : cQ P EqH f args h K := by
  unfold cQ
  refine ⟨r, fun h' e => ?_, H⟩
  have e : h' = h := e
  subst e
  exact c
theorem isRight57 (S M : Nat) (a : Option Addr) (n c : Nat) (ws : List Wn) (b : Option Addr) (m k : Nat) (days : List Int) (h : Eng.Heap) (hr : Row h a (wsV ws)) (hn : n = ws.length) (V : Vb S M ws) (hd : IntsV h b m days) (hmn : m = n) (h0 : ∀ x ∈ days, 0 ≤ x) :
    CallsH Try.prog 57 #[.agg #[.int .i64 S, .int .i64 M, .slice a n c], .slice b m k] h (fun v h' => (∃ r : Bool, v = .bool r ∧ (r = true ↔ rightD ws days)) ∧ Ext h h') := by
  have hml := hd.len
  have V3 := V.n
  obtain ⟨C, hC⟩ : ∃ C : Nat → Nat, C = fun i => (natL days).getD i 0 := ⟨_, rfl⟩
  have hCd : ∀ i, i < m → days.getD i 0 = (C i : Nat) := fun i hi => by
    have e1 : C i = (natL days).getD i 0 := by rw [hC]
    rw [e1, natL_get]
    have hm : days.getD i 0 ∈ days := by
      have : i < days.length := by omega
      simp [List.getD, List.getElem?_eq_getElem this]
    have := h0 _ hm
    omega
  have hRD : rightD ws days ↔ MB.right (shN ws) (moN ws) C m := by
    unfold rightD MB.rightL
    rw [natL_length, ← hC, hml]
  (refine CallsH_of_exec Try.func57 rfl bod57 ?_; simp only [Try.ntmps57, Try.results57, coreS, stK_some, splice, Value.cells, Value.oneCell', Nat.reduceAdd, Nat.reduceSub, Nat.reduceMul, Nat.reduceLeDiff, Int.reduceEq, Nat.reduceEqDiff, M11Fs57])
  have x0 : Ext h (h.push (.cells #[.int .i64 S, .int .i64 M, .slice a n c] 24)) := (Ext.refl h).push _
  have hb0 := push_new (h := h) (o := .cells #[.int .i64 S, .int .i64 M, .slice a n c] 24)
  generalize h.push (.cells #[.int .i64 S, .int .i64 M, .slice a n c] 24) = hh at x0 hb0 ⊢
  refine WP_loopI [4, 5, 6, 7, 8, 9, 10, 11, 12, 13, 14, 15, 16, 17, 18, 19, 20, 21, 22, 23, 24, 25, 26, 27, 28, 29, 30, 31, 32] (fun e h' => Ext hh h' ∧ ∃ i : Nat, i ≤ m ∧ e 5 = .int .i64 i ∧ MB.right (shN ws) (moN ws) C i) (fun e _ => match e 5 with | .int _ q => m - q.toNat | _ => 0) ⟨Ext.refl _, 0, by omega, rfl, fun a b ha => by omega⟩ ?_
  rintro e h1 ⟨x1, i, hi, he, hR⟩
  by_cases hil : i < days.length
  · have hlt : (i : Int) < (m : Int) := by omega
    simp only [he, hlt, decide_true, coreS, Value.cells, Value.oneCell', Nat.reduceAdd, Nat.reduceSub, Nat.reduceMul, Nat.reduceLeDiff, Int.reduceEq, Nat.reduceEqDiff, M11Fs57]
    refine WP_loopI [4, 6, 13, 14, 15, 16, 17, 18, 19, 20, 21, 22, 23, 24, 25, 26, 27, 28, 29, 30, 31, 32] (fun e h' => Ext hh h' ∧ ∃ q : Nat, q ≤ i ∧ e 6 = .int .i64 q ∧ ∀ t, t < q → C t = C i → shN ws t ≠ shN ws i ∧ moN ws t ≠ moN ws i) (fun e _ => match e 6 with | .int _ q => i - q.toNat | _ => 0) ⟨x1, 0, by omega, rfl, fun t ht => by omega⟩ ?_
    rintro e2 h2 ⟨x2, q, hq, he2, hno⟩
    have hb2 := x2.get hb0
    have y2 := x0.trans x2
    by_cases hqi : q < i
    · have hlt2 : (q : Int) < (i : Int) := by omega
      have hd2 := hd.ext y2
      have c1 := hd2.cell hil
      have c2 := hd2.cell (j := q) (by omega)
      rw [hCd i (by omega)] at c1
      rw [hCd q (by omega)] at c2
      simp only [he2, hlt2, decide_true, coreS, Value.cells, Value.oneCell', Nat.reduceAdd, Nat.reduceSub, Nat.reduceMul, Nat.reduceLeDiff, Int.reduceEq, Nat.reduceEqDiff, M11Fs57]
      refine WP_draw (by kernel_rfl) sta_ext [(0, 0), (1, 0), (2, 0), (3, 0), (4, 0), (5, 0), (6, 0), (7, 0), (8, 0), (9, 0), (10, 0), (11, 0), (12, 0), (13, 0), (14, 0)] (by kernel_rfl) rfl (by kernel_rfl) ?_
      have hds : b.isSome = true := hd.isSome (by omega)
      have go_on : (C q = C i → shN ws q ≠ shN ws i ∧ moN ws q ≠ moN ws i) → ∀ t, t < q + 1 → C t = C i → shN ws t ≠ shN ws i ∧ moN ws t ≠ moN ws i := fun hh t ht et => by
        by_cases h : t = q
        · subst h; exact hh et
        · exact hno t (by omega) et
      by_cases hcc : ((C i : Nat) : Int) = (C q : Nat)
      · simp only [he, he2, hb2, c1, c2, hcc, decide_true, Int.toNat_natCast, coreS, Value.cells, Value.oneCell', Nat.reduceAdd, Nat.reduceSub, Nat.reduceMul, Nat.reduceLeDiff, Int.reduceEq, Nat.reduceEqDiff, drawS, M11Fs57]
        refine ⟨⟨by omega, by omega⟩, hds, ⟨by omega, by omega⟩, hds, ?_⟩
        refine cQ_ext _ (fun h3 x3 => clash79 S M a n c ws i q h3 (hr.ext (y2.trans x3)) hn V (by omega) (by omega)) ?_
        cases hcl : MB.clash (shN ws) (moN ws) i q with
        | true =>
          simp only [coreS, Value.cells, Value.oneCell', Nat.reduceAdd, Nat.reduceSub, Nat.reduceMul, Nat.reduceLeDiff, Int.reduceEq, Nat.reduceEqDiff, drawS, M11Fs57]
          refine hvK_mk fun h3 x3 => ?_
          simp only [coreS, Value.cells, Value.oneCell', Nat.reduceAdd, Nat.reduceSub, Nat.reduceMul, Nat.reduceLeDiff, Int.reduceEq, Nat.reduceEqDiff, M11Fs57]
          refine ⟨⟨false, rfl, Iff.intro (fun hf => absurd hf (by simp)) (fun hr1 => ?_)⟩, y2.trans x3⟩
          have h5 := (hRD.1 hr1) i q (by omega) (by omega) (by omega) (by omega)
          have := MB.clash_no.2 h5
          rw [hcl] at this; cases this
        | false =>
          simp only [coreS, Value.cells, Value.oneCell', Nat.reduceAdd, Nat.reduceSub, Nat.reduceMul, Nat.reduceLeDiff, Int.reduceEq, Nat.reduceEqDiff, drawS, M11Fs57]
          refine hvK_mk fun h3 x3 => ?_
          simp only [he2, coreS, Value.cells, Value.oneCell', Nat.reduceAdd, Nat.reduceSub, Nat.reduceMul, Nat.reduceLeDiff, Int.reduceEq, Nat.reduceEqDiff, M11Fs57]
          have h5 := MB.clash_no.1 hcl
          refine ⟨by rw [inK_i64]; omega, roundK_mk (by kernel_rfl) ⟨x2.trans x3, q + 1, by omega, rfl, go_on fun _ => ⟨fun e => h5.1 e.symm, fun e => h5.2 e.symm⟩⟩ ?_⟩
          show i - ((q : Int) + 1).toNat < i - (q : Int).toNat
          omega
      · simp only [he, he2, hb2, c1, c2, hcc, decide_false, Int.toNat_natCast, coreS, Value.cells, Value.oneCell', Nat.reduceAdd, Nat.reduceSub, Nat.reduceMul, Nat.reduceLeDiff, Int.reduceEq, Nat.reduceEqDiff, drawS, M11Fs57]
        refine ⟨⟨by omega, by omega⟩, hds, ⟨by omega, by omega⟩, hds, ?_⟩
        refine hvK_mk fun h3 x3 => ?_
        simp only [he2, coreS, Value.cells, Value.oneCell', Nat.reduceAdd, Nat.reduceSub, Nat.reduceMul, Nat.reduceLeDiff, Int.reduceEq, Nat.reduceEqDiff, M11Fs57]
        refine ⟨by rw [inK_i64]; omega, roundK_mk (by kernel_rfl) ⟨x2.trans x3, q + 1, by omega, rfl, go_on fun h => absurd (by rw [h]) hcc⟩ ?_⟩
        show i - ((q : Int) + 1).toNat < i - (q : Int).toNat
        omega
    · obtain rfl : q = i := by omega
      have hlt2 : ¬ ((q : Int) < (q : Int)) := by omega
      simp only [he, he2, hlt2, decide_false, coreS, Value.cells, Value.oneCell', Nat.reduceAdd, Nat.reduceSub, Nat.reduceMul, Nat.reduceLeDiff, Int.reduceEq, Nat.reduceEqDiff, M11Fs57]
      refine ⟨by rw [inK_i64]; omega, roundK_mk (by kernel_rfl) ⟨x2, q + 1, by omega, rfl, right_step.2 ⟨hR, hno⟩⟩ ?_⟩
      show m - ((q : Int) + 1).toNat < m - (q : Int).toNat
      omega
  · obtain rfl : i = m := by omega
    have hlt : ¬ ((i : Int) < (i : Int)) := by omega
    simp only [he, hlt, decide_false, coreS, Value.cells, Value.oneCell', Nat.reduceAdd, Nat.reduceSub, Nat.reduceMul, Nat.reduceLeDiff, Int.reduceEq, Nat.reduceEqDiff, M11Fs57]
    exact ⟨⟨true, rfl, ⟨fun _ => hRD.2 hR, fun _ => rfl⟩⟩, x0.trans x1⟩
theorem take_get {xs : List Int} {i : Nat} (h : ∀ x ∈ xs, 0 ≤ x) (hi : i < xs.length) : (xs.take i).contains (xs.getD i 0) = ((natL xs).take i).contains ((natL xs).getD i 0) := by
  have h1 := zsN_natL h
  conv => lhs; rw [← h1]
  rw [Bool.eq_iff_iff, List.contains_iff_mem, List.contains_iff_mem]
  unfold zsN
  rw [← List.map_take, List.mem_map]
  have e : ((natL xs).map fun j : Nat => (j : Int)).getD i 0 = ((natL xs).getD i 0 : Nat) := by
    simp only [List.getD, List.getElem?_map]
    cases (natL xs)[i]? <;> rfl
  rw [e]
  constructor
  · rintro ⟨a, ha, he⟩
    rw [← show a = (natL xs).getD i 0 by omega]; exact ha
  · intro ha
    exact ⟨_, ha, rfl⟩
theorem different58 (b : Option Addr) (m k : Nat) (days : List Int) (h : Eng.Heap) (hd : IntsV h b m days) (hc : m ≤ k) (hl : m ≤ 1000000) (h0 : ∀ x ∈ days, 0 ≤ x) :
    CallsH Try.prog 58 #[.slice b m k] h (fun v h' => v = .int .i64 (MB.dif (natL days) : Nat) ∧ h' = h) := by
  have hml := hd.len
  (refine CallsH_of_exec Try.func58 rfl bod58 ?_; simp only [Try.ntmps58, Try.results58, coreS, stK_some, splice, Value.cells, Value.oneCell', Nat.reduceAdd, Nat.reduceSub, Nat.reduceMul, Nat.reduceLeDiff, Int.reduceEq, Nat.reduceEqDiff, M11Fs58])
  refine WP_loopI [3, 4, 5, 6, 7, 8, 9, 10, 11, 12, 13, 14, 15, 16, 17, 18, 19, 20, 21] (fun e h' => h' = h ∧ ∃ i : Nat, i ≤ m ∧ e 4 = .int .i64 i ∧ e 3 = .int .i64 (MB.cnt (fun i => !((natL days).take i).contains ((natL days).getD i 0)) i : Nat)) (fun e _ => match e 4 with | .int _ q => m - q.toNat | _ => 0) ⟨rfl, 0, by omega, rfl, rfl⟩ ?_
  rintro e h1 ⟨rfl, i, hi, he, he3⟩
  by_cases hil : i < days.length
  · have hlt : (i : Int) < (m : Int) := by omega
    have c1 := hd.cell hil
    have hds : b.isSome = true := hd.isSome (by omega)
    simp only [he, he3, hlt, decide_true, coreS, Value.cells, Value.oneCell', Nat.reduceAdd, Nat.reduceSub, Nat.reduceMul, Nat.reduceLeDiff, Int.reduceEq, Nat.reduceEqDiff, M11Fs58]
    refine WP_draw (by kernel_rfl) sta_eq [(0, 0), (1, 0), (2, 0), (3, 0), (4, 0), (5, 0), (6, 0), (7, 0), (8, 0)] (by kernel_rfl) rfl (by kernel_rfl) ?_
    have hsl := intsV_slice (lo := 0) (hi := i) (c := k) hd (by omega) hi hc
    have e1 : ((i : Int) - ((0 : Nat) : Int)).toNat = i := by omega
    simp only [Nat.sub_zero, List.drop_zero] at hsl
    have hcl := take_get h0 hil
    have hcb := MB.cnt_le (fun i => !((natL days).take i).contains ((natL days).getD i 0)) i
    have hcs := MB.cnt_succ (fun i => !((natL days).take i).contains ((natL days).getD i 0)) i
    simp only [he, c1, hvK_eq, Int.toNat_natCast, coreS, Value.cells, Value.oneCell', Nat.reduceAdd, Nat.reduceSub, Nat.reduceMul, Nat.reduceLeDiff, Int.reduceEq, Nat.reduceEqDiff, drawS, M11Fs58]
    simp only [e1]
    refine ⟨by omega, by omega, by omega, by omega, ⟨by omega, by omega⟩, hds, ?_⟩
    refine cQ_same _ (has71 _ i _ (days.take i) (days.getD i 0) h1 hsl (by omega)) ?_
    rw [hcl]
    cases hh : ((natL days).take i).contains ((natL days).getD i 0) with
    | true =>
      rw [hh] at hcs
      simp only [Bool.not_true, hvK_eq, coreS, Value.cells, Value.oneCell', Nat.reduceAdd, Nat.reduceSub, Nat.reduceMul, Nat.reduceLeDiff, Int.reduceEq, Nat.reduceEqDiff, drawS, M11Fs58]
      refine ⟨by rw [inK_i64]; omega, roundK_mk (by kernel_rfl) ⟨rfl, i + 1, by omega, rfl, ?_⟩ ?_⟩
      · rw [hcs]; rfl
      · show m - ((i : Int) + 1).toNat < m - (i : Int).toNat
        omega
    | false =>
      rw [hh] at hcs
      simp only [Bool.not_false, hvK_eq, coreS, Value.cells, Value.oneCell', Nat.reduceAdd, Nat.reduceSub, Nat.reduceMul, Nat.reduceLeDiff, Int.reduceEq, Nat.reduceEqDiff, drawS, M11Fs58]
      refine ⟨by rw [inK_i64]; omega, by rw [inK_i64]; omega, roundK_mk (by kernel_rfl) ⟨rfl, i + 1, by omega, rfl, ?_⟩ ?_⟩
      · rw [hcs]; rfl
      · show m - ((i : Int) + 1).toNat < m - (i : Int).toNat
        omega
  · obtain rfl : i = m := by omega
    have hlt : ¬ ((i : Int) < (i : Int)) := by omega
    simp only [he, he3, hlt, decide_false, coreS, Value.cells, Value.oneCell', Nat.reduceAdd, Nat.reduceSub, Nat.reduceMul, Nat.reduceLeDiff, Int.reduceEq, Nat.reduceEqDiff, M11Fs58]
    unfold MB.dif
    rw [natL_length, ← hml]
theorem checkDays21 (S M : Int) (a : Option Addr) (n c : Nat) (ws : List Wn) (b : Option Addr) (m k : Nat) (days : List Int) (h : Eng.Heap) (hr : Row h a (wsV ws)) (hn : n = ws.length) (hl : n ≤ 1000000) (hd : IntsV h b m days) (hm : m ≤ 1000000) (hmk : m ≤ k) :
    CallsH Try.prog 21 #[.agg #[.int .i64 S, .int .i64 M, .slice a n c], .slice b m k] h (fun v h' => v = .tuple #[.int .i64 (difD S M ws days), .int .i64 (chkD S M ws days)] ∧ Ext h h') := by
  have hml := hd.len
  (refine CallsH_of_exec Try.func21 rfl bod21 ?_; simp only [Try.ntmps21, Try.results21, coreS, stK_some, splice, Value.cells, Value.oneCell', Nat.reduceAdd, Nat.reduceSub, Nat.reduceMul, Nat.reduceLeDiff, Int.reduceEq, Nat.reduceEqDiff, M11Fs21])
  have x0 : Ext h (h.push (.cells #[.int .i64 S, .int .i64 M, .slice a n c] 24)) := (Ext.refl h).push _
  have fin : ∀ {e : Int} {Q : Prop}, chkD S M ws days = e → e ≠ 0 → Q → Value.tuple #[.int .i64 0, .int .i64 e] = Value.tuple #[.int .i64 (difD S M ws days), .int .i64 (chkD S M ws days)] ∧ Q := fun h1 h2 q => ⟨by unfold difD; rw [h1, if_neg h2], q⟩
  refine CallsH.mono (check23 S M a n c ws _ (hr.push _) hn hl) ?_
  rintro v h1 ⟨rfl, x1⟩
  have hb1 := x1.get (push_new (h := h))
  have y1 := x0.trans x1
  by_cases hc : chk S M ws = 0
  case neg =>
    simp only [hc, hb1, decide_false, Bool.not_false, coreS, Value.cells, Value.oneCell', Nat.reduceAdd, Nat.reduceSub, Nat.reduceMul, Nat.reduceLeDiff, Int.reduceEq, Nat.reduceEqDiff, M11Fs21]
    refine CallsH.mono (check23 S M a n c ws _ (hr.ext y1) hn hl) ?_
    rintro v h2 ⟨rfl, x2⟩
    simp only [coreS, Value.cells, Value.oneCell', Nat.reduceAdd, Nat.reduceSub, Nat.reduceMul, Nat.reduceLeDiff, Int.reduceEq, Nat.reduceEqDiff, M11Fs21]
    exact fin (by unfold chkD; rw [if_pos hc]) hc (y1.trans x2)
  obtain ⟨s, mm, rfl, rfl, V⟩ := chk_ok hc
  simp only [hc, hb1, Bool.not_true, decide_true, coreS, Value.cells, Value.oneCell', Nat.reduceAdd, Nat.reduceSub, Nat.reduceMul, Nat.reduceLeDiff, Int.reduceEq, Nat.reduceEqDiff, M11Fs21]
  refine ⟨fun heq => ?_, fun hne => fin (by unfold chkD; rw [if_neg (by simpa using hc), if_pos (by omega)]) (by omega) y1⟩
  have V3 := V.n
  refine WP_loopI [4, 5, 6, 18, 19, 20, 21, 22, 23, 24, 25, 26, 27, 28, 29, 30, 31, 32, 33, 34, 35] (fun e h' => h' = h1 ∧ ∃ i : Nat, i ≤ m ∧ e 6 = .int .i64 i ∧ ∀ j, j < i → 0 ≤ days.getD j 0 ∧ days.getD j 0 ≤ 13) (fun e _ => match e 6 with | .int _ q => m - q.toNat | _ => 0) ⟨rfl, 0, by omega, rfl, fun j hj => by omega⟩ ?_
  rintro e h' ⟨rfl, i, hi, he, hno⟩
  have hd1 := hd.ext y1
  have bad : ∀ i, i < days.length → ¬ (0 ≤ days.getD i 0 ∧ days.getD i 0 ≤ 13) → chkD (s : Int) (mm : Int) ws days = 3 := fun i hi hb => by
    unfold chkD
    rw [if_neg (by simpa using hc), if_neg (by omega), if_pos]
    rw [Bool.eq_false_iff]
    intro hin
    exact hb (inB_iff.1 hin _ (by simp [List.getD, List.getElem?_eq_getElem hi]))
  by_cases hil : i < days.length
  · have hlt : (i : Int) < (m : Int) := by omega
    have hds : b.isSome = true := hd.isSome (by omega)
    have c1 := hd1.cell hil
    simp only [he, hlt, c1, decide_true, Int.toNat_natCast, coreS, Value.cells, Value.oneCell', Nat.reduceAdd, Nat.reduceSub, Nat.reduceMul, Nat.reduceLeDiff, Int.reduceEq, Nat.reduceEqDiff, M11Fs21]
    refine ⟨by omega, hds, ⟨fun g1 => fin (bad i hil (by omega)) (by omega) y1, fun g1 => ?_⟩⟩
    refine ⟨by omega, hds, ⟨fun g2 => fin (bad i hil (by omega)) (by omega) y1, fun g2 => ?_⟩⟩
    refine ⟨by rw [inK_i64]; omega, roundK_mk (by kernel_rfl) ⟨rfl, i + 1, by omega, rfl, fun j hj => ?_⟩ ?_⟩
    · by_cases hji : j = i
      · subst hji; omega
      · exact hno j (by omega)
    · show m - ((i : Int) + 1).toNat < m - (i : Int).toNat
      omega
  · obtain rfl : i = m := by omega
    have hlt : ¬ ((i : Int) < (i : Int)) := by omega
    have hall : ∀ x ∈ days, 0 ≤ x ∧ x ≤ 13 := fun x hx => by
      obtain ⟨j, hj, rfl⟩ := List.getElem_of_mem hx
      have := hno j (by omega)
      simpa [List.getD, List.getElem?_eq_getElem hj] using this
    have hin := inB_iff.2 hall
    simp only [he, hlt, hb1, decide_false, coreS, Value.cells, Value.oneCell', Nat.reduceAdd, Nat.reduceSub, Nat.reduceMul, Nat.reduceLeDiff, Int.reduceEq, Nat.reduceEqDiff, M11Fs21]
    refine CallsH.mono (isRight57 s mm a n c ws b i k days h' (hr.ext y1) hn V hd1 (by omega) fun x hx => (hall x hx).1) ?_
    rintro v h2 ⟨⟨r, rfl, hrr⟩, x2⟩
    have y2 := y1.trans x2
    cases r with
    | false =>
      simp only [Bool.not_false, coreS, Value.cells, Value.oneCell', Nat.reduceAdd, Nat.reduceSub, Nat.reduceMul, Nat.reduceLeDiff, Int.reduceEq, Nat.reduceEqDiff, M11Fs21]
      refine fin ?_ (by omega) y2
      unfold chkD
      rw [if_neg (by simpa using hc), if_neg (by omega), if_neg (by simp [hin]), if_neg]
      exact fun hh => absurd (hrr.2 hh) (by simp)
    | true =>
      have hD : chkD (s : Int) (mm : Int) ws days = 0 := by
        unfold chkD
        rw [if_neg (by simpa using hc), if_neg (by omega), if_neg (by simp [hin]), if_pos (hrr.1 rfl)]
      have hD2 : difD (s : Int) (mm : Int) ws days = (MB.dif (natL days) : Nat) := by unfold difD; rw [if_pos hD]
      simp only [Bool.not_true, coreS, Value.cells, Value.oneCell', Nat.reduceAdd, Nat.reduceSub, Nat.reduceMul, Nat.reduceLeDiff, Int.reduceEq, Nat.reduceEqDiff, M11Fs21]
      refine CallsH.mono (different58 b i k days h2 (hd.ext y2) hmk hm fun x hx => (hall x hx).1) ?_
      rintro v h3 ⟨rfl, rfl⟩
      simp only [hD, hD2, coreS, Value.cells, Value.oneCell', Nat.reduceAdd, Nat.reduceSub, Nat.reduceMul, Nat.reduceLeDiff, Int.reduceEq, Nat.reduceEqDiff, M11Fs21]
      exact y2
end Go.Proofs.Ytmgkeeefbfefgaa
end
section
namespace Go.Proofs.Ytmgkeeefbfefgaa
open Go Go.Proofs Go.Eng Go.Run Tab
set_option maxRecDepth 100000
set_option linter.unusedSimpArgs false
set_option linter.unusedVariables false
set_option linter.defProp false
set_option maxHeartbeats 1000000
set_option linter.defProp false
def up1 (o x : Int) : Int := if o < x then x else o
def mxI (xs : List Int) : Int := (xs.drop 1).foldl up1 (xs.getD 0 0)
def gld (ws : List Wn) : Nat := (max (mxI (ldL (shN ws) 6 ws.length)) (mxI (ldL (moN ws) 6 ws.length))).toNat
end Go.Proofs.Ytmgkeeefbfefgaa
end
section
namespace Go.Proofs.Ytmgkeeefbfefgaa
open Go Go.Proofs Go.Eng Go.Run Tab
set_option maxRecDepth 100000
set_option linter.unusedSimpArgs false
set_option linter.unusedVariables false
set_option linter.defProp false
set_option maxHeartbeats 1000000
set_option linter.defProp false
theorem Hold.del {sh mo : Nat → Nat} {es : List (Sk × Value × Nat)} {L : List (Nat × Nat)} {i d : Nat} (H : Hold sh mo es (L ++ [(i, d)])) (hf : fits sh mo L i d = true) : Hold sh mo (delA (1, mo i, d) (delA (0, sh i, d) es)) L := by
  have hf0 : held sh mo L (0, sh i, d) = false := by unfold fits at hf; simp only [Bool.and_eq_true, Bool.not_eq_true'] at hf; exact hf.1
  have hf1 : held sh mo L (1, mo i, d) = false := by unfold fits at hf; simp only [Bool.and_eq_true, Bool.not_eq_true'] at hf; exact hf.2
  have gone : ∀ (k : Sk) (es : List (Sk × Value × Nat)), (es.map (·.1)).Nodup → getA k (delA k es) = none := by
    intro k es hn
    induction es with
    | nil => rfl
    | cons x es ih =>
      rw [List.map_cons, List.nodup_cons] at hn
      by_cases hx : k = x.1
      · simp only [delA, hx, if_true]
        cases hg : getA x.1 es with
        | none => rfl
        | some v =>
          obtain ⟨c, hc⟩ := mem_getA hg
          exact absurd (List.mem_map.2 ⟨_, hc, rfl⟩) hn.1
      · simp only [delA, hx, if_false, getA]
        exact ih hn.2
  refine ⟨del_nodup (del_nodup H.nd), fun k => ?_⟩
  by_cases h1 : k = (1, mo i, d)
  · subst h1
    rw [gone _ _ (del_nodup H.nd), hf1]; rfl
  rw [getA_del h1]
  by_cases h0 : k = (0, sh i, d)
  · subst h0
    rw [gone _ _ H.nd, hf0]; rfl
  rw [getA_del h0, H.get]
  unfold held
  rw [List.any_append]
  simp [h0, h1]
structure Chg2 (h h' : Eng.Heap) (b c : Nat) : Prop where
  size : h.size ≤ h'.size
  old : ∀ i, i < h.size → i ≠ b → i ≠ c → h'[i]? = h[i]?
theorem Chg2.refl (h : Eng.Heap) (b c : Nat) : Chg2 h h b c := ⟨Nat.le_refl _, fun _ _ _ _ => rfl⟩
theorem Chg2.of_ext {h h' : Eng.Heap} {b c : Nat} (x : Ext h h') : Chg2 h h' b c := ⟨x.size, fun i h1 _ _ => x.old i h1⟩
theorem Chg2.trans {h h' h'' : Eng.Heap} {b c : Nat} (x : Chg2 h h' b c) (y : Chg2 h' h'' b c) : Chg2 h h'' b c := ⟨Nat.le_trans x.size y.size, fun i h1 h2 h3 => (y.old i (Nat.lt_of_lt_of_le h1 x.size) h2 h3).trans (x.old i h1 h2 h3)⟩
theorem Chg2.updr {h h' h'' : Eng.Heap} {b c : Nat} (x : Chg2 h h' b c) (u : Upd h' h'' c) : Chg2 h h'' b c := x.trans ⟨by rw [u.size]; exact Nat.le_refl _, fun i _ _ h3 => u.old i h3⟩
theorem Chg2.updl {h h' h'' : Eng.Heap} {b c : Nat} (x : Chg2 h h' b c) (u : Upd h' h'' b) : Chg2 h h'' b c := x.trans ⟨by rw [u.size]; exact Nat.le_refl _, fun i _ h2 _ => u.old i h2⟩
theorem Chg2.get {h h' : Eng.Heap} {b c i : Nat} {o : Obj} (x : Chg2 h h' b c) (hi : h[i]? = some o) (h1 : i ≠ b) (h2 : i ≠ c) : h'[i]? = some o := (x.old i (lt_of_get hi) h1 h2).trans hi
theorem Chg2.ext {h0 h h' : Eng.Heap} {b c : Nat} (y : Ext h0 h) (x : Chg2 h h' b c) (hb : h0.size ≤ b) (hc : h0.size ≤ c) : Ext h0 h' := ⟨Nat.le_trans y.size x.size, fun i hi => (x.old i (Nat.lt_of_lt_of_le hi y.size) (by omega) (by omega)).trans (y.old i hi)⟩
def gs (sh mo : Nat → Nat) (D k : Nat) (bg : List Nat) (d : Nat) : Option (List Nat) := if MB.fit sh mo bg d then MB.go sh mo D k (bg ++ [d]) else none
theorem ints_put {zs : List Int} {i : Nat} {d : Int} (hi : i < zs.length) : splice (Eng.ints zs) i [.int .i64 d] = Eng.ints (zs.set i d) := by
  rw [splice_one _ _ _ (by rw [Eng.ints_length]; exact hi)]
  simp [Eng.ints, List.map_set]
theorem zsN_length (l : List Nat) : (zsN l).length = l.length := by simp [zsN]
noncomputable def dysF (ws : List Wn) : List Nat := (MB.go (shN ws) (moN ws) (gld ws) ws.length []).getD []
structure DaysP (S M : Int) (ws : List Wn) (h0 : Nat) (h' : Eng.Heap) (v : Value) : Prop where
  ok : chk S M ws = 0 → ∃ q, v = .tuple #[.slice (some ⟨q, 0, none⟩) ws.length ws.length, .int .i64 0] ∧ h0 ≤ q ∧ h'[q]? = some (.cells (Eng.ints (zsN (dysF ws))).toArray 3)
  no : chk S M ws ≠ 0 → v = .tuple #[.slice none 0 0, .int .i64 (chk S M ws)]
end Go.Proofs.Ytmgkeeefbfefgaa
end
section
namespace Go.Proofs.Ytmgkeeefbfefgaa
open Go Go.Proofs Go.Eng Go.Run Tab
set_option maxRecDepth 100000
set_option linter.unusedSimpArgs false
set_option linter.unusedVariables false
set_option linter.defProp false
set_option maxHeartbeats 4000000
set_option linter.defProp false
theorem App.oth {h h' : Eng.Heap} {a a' : Option Addr} {el : TypeId} {len cap : Nat} {xs : List Int} {m c : Nat} {o : Obj} (A : App h h' a a') (O : OwnI m h el a len cap xs) (hc : h[c]? = some o) (hne : ∀ cur, o ≠ .cells cur el (0, 0)) : h'[c]? = some o :=
  (A.old c (lt_of_get hc) fun p hp hpc => by
    rcases O.ok with ⟨h1, _⟩ | ⟨g, cur, h1, h2, h3, _⟩
    · rw [h1] at hp; cases hp
    · rw [h1] at hp; cases hp
      subst hpc
      rw [hc] at h3
      exact hne cur (Option.some.inj h3)).trans hc
theorem Marks.app {h h' : Eng.Heap} {a a' : Option Addr} {el : TypeId} {len cap : Nat} {xs : List Int} {m m0 m1 : Nat} {d : List Deferred} (A : App h h' a a') (O : OwnI m h el a len cap xs) (M : Marks m0 m1 h d) : Marks m0 m1 h' d := by
  obtain ⟨rs, h1, h2, h3⟩ := M
  exact ⟨rs, h1, h2, fun r hr => ⟨(h3 r hr).1, (h3 r hr).2.1, App.oth A O (h3 r hr).2.2 fun cur hh => by cases hh⟩⟩
theorem sort73_own2 (m n c : Nat) (a : Option Addr) (xs : List Int) (h : Eng.Heap) (O : OwnI m h 3 a n c xs) (hl : n ≤ 1000000) :
    CallsH Try.prog 73 #[.slice a n c] h (fun v h' => v = .tuple #[] ∧ (h.size ≤ h'.size ∧ ∀ b, b < h.size → (∀ p, a = some p → p.block ≠ b) → h'[b]? = h[b]?) ∧ ∃ ys, ys.Perm xs ∧ srt ys ∧ OwnI m h' 3 a n c ys) := by
  have hn := O.ln
  by_cases h0 : 0 < n
  · obtain ⟨g, tl, rfl, hg, hb, hc, hc2, _⟩ := O.block h0
    refine CallsH.mono (sort73 g c n xs tl h hb hn hl) ?_
    rintro v h' ⟨rfl, ⟨q1, q2⟩, ys, hp, hs, hb2⟩
    have e := hp.length_eq
    refine ⟨rfl, ⟨q1, fun b h1 h2 => q2 b h1 (fun e => h2 _ rfl e.symm)⟩, ys, hp, hs, ?_⟩
    have := OwnI.of_block (xs := ys) (cap := c) hg hb2 (by omega) (by omega)
    rwa [show ys.length = n by omega] at this
  · obtain rfl : n = 0 := by omega
    refine CallsH.mono (sort0 a c h) ?_
    rintro v h' ⟨rfl, rfl⟩
    obtain rfl : xs = [] := List.length_eq_zero_iff.1 hn.symm
    exact ⟨rfl, ⟨Nat.le_refl _, fun b _ _ => rfl⟩, [], List.Perm.refl _, List.Pairwise.nil, O⟩
end Go.Proofs.Ytmgkeeefbfefgaa
end
section
namespace Go.Proofs.Ytmgkeeefbfefgaa
open Go Go.Proofs Go.Eng Go.Run Tab
set_option maxRecDepth 100000
set_option linter.unusedSimpArgs false
set_option linter.unusedVariables false
set_option linter.defProp false
set_option maxHeartbeats 1000000
set_option linter.defProp false
noncomputable def chnE (S M : Int) (ws : List Wn) (days : List Int) (want day : Int) : Int :=
  if chkD S M ws days ≠ 0 then chkD S M ws days else if ¬ (0 ≤ want ∧ want < days.length) then 2 else if ¬ (0 ≤ day ∧ day ≤ 13) then 3 else if days.getD want.toNat 0 = day then 16 else 0
def chnL (ws : List Wn) (days : List Int) (want day : Int) : List Nat := (List.range ws.length).filter (MB.cit (shN ws) (moN ws) (fun i => (natL days).getD i 0) ws.length want.toNat day.toNat ws.length)
structure ChainP (S M : Int) (ws : List Wn) (days : List Int) (want day : Int) (h0 : Nat) (h' : Eng.Heap) (v : Value) : Prop where
  ok : chnE S M ws days want day = 0 → ∃ a cap, v = .tuple #[.slice a (chnL ws days want day).length cap, .int .i64 0] ∧ OwnI h0 h' 3 a (chnL ws days want day).length cap (zsN (chnL ws days want day))
  no : chnE S M ws days want day ≠ 0 → v = .tuple #[.slice none 0 0, .int .i64 (chnE S M ws days want day)]
end Go.Proofs.Ytmgkeeefbfefgaa
end
section
namespace Go.Proofs.Ytmgkeeefbfefgaa
open Go Go.Proofs Go.Eng Go.Run Tab
set_option maxRecDepth 100000
set_option linter.unusedSimpArgs false
set_option linter.unusedVariables false
set_option linter.defProp false
set_option maxHeartbeats 1000000
set_option linter.defProp false
def M20Fs63 := (And.intro (And.intro @by3 @inf3) (And.intro @sz3 (And.intro @zero3 @Try.underlying25)))
theorem sliceNil {P : Program} {e : Eng.Env} {h : Eng.Heap} {ty u yt el : TypeId} (hu : P.underlying u = some (.slice el)) {x y : Operand} {a : Option Addr} {n c : Nat} (hx : ev e x = .slice a n c) (hy : ev e y = .slice none 0 0) {K : Value → Eng.Heap → Prop} (H : K (.bool a.isNone) h) : opSem P (.binOp .eql u x y yt) ty e h K :=
  opSem_pure rfl _ H fun w _ => by simp [execOp, hx, hy, eqGuard, Go.binOp, eq_slice hu]
theorem binW_slice {op : BinOp} {a b : Option Addr} {n c n2 c2 : Nat} {h : Eng.Heap} {K : Value → Eng.Heap → Prop} {F : Prop} : binW op (.slice a n c) (.slice b n2 c2) h K F = F := by unfold binW; rfl
theorem clone63 (a : Option Addr) (n c : Nat) (xs : List Int) (h : Eng.Heap) (hd : IntsV h a n xs) (hl : n ≤ 900) :
    CallsH Try.prog 63 #[.slice a n c] h (fun v h' => (∃ a' c', v = .slice a' n c' ∧ OwnI h.size h' 3 a' n c' xs) ∧ Ext h h') := by
  have hn := hd.len
  (refine CallsH_of_exec Try.func63 rfl bod63 ?_; simp only [Try.ntmps63, Try.results63, coreS, stK_some, splice, Value.cells, Value.oneCell', Nat.reduceAdd, Nat.reduceSub, Nat.reduceMul, Nat.reduceLeDiff, Int.reduceEq, Nat.reduceEqDiff, M20Fs63])
  rw [binW_slice]
  refine sliceNil Try.underlying25 rfl rfl ?_
  cases a with
  | none =>
    have he : xs = [] := by
      by_cases h0 : 0 < xs.length
      · have := hd.isSome h0; cases this
      · exact List.length_eq_zero_iff.1 (by omega)
    subst he
    subst hn
    simp only [Option.isNone, coreS, Value.cells, Value.oneCell', Nat.reduceAdd, Nat.reduceSub, Nat.reduceMul, Nat.reduceLeDiff, Int.reduceEq, Nat.reduceEqDiff, M20Fs63]
    exact ⟨⟨none, 0, rfl, OwnI.nil _ _ _⟩, Ext.refl _⟩
  | some a =>
    simp only [Option.isNone, coreS, Value.cells, Value.oneCell', Nat.reduceAdd, Nat.reduceSub, Nat.reduceMul, Nat.reduceLeDiff, Int.reduceEq, Nat.reduceEqDiff, M20Fs63]
    have O0 : OwnI h.size (h.push (.cells #[] 3)) 3 (some ⟨h.size, 0, none⟩) 0 0 [] := ⟨rfl, .inr ⟨h.size, #[], rfl, Nat.le_refl _, push_new, by simp, Nat.le_refl _, rfl⟩⟩
    refine app25 rfl rfl O0 (by simp) (hd.ext ((Ext.refl h).push _)) (by omega) fun a' c' h' O A => ?_
    simp only [coreS, Value.cells, Value.oneCell', Nat.reduceAdd, Nat.reduceSub, Nat.reduceMul, Nat.reduceLeDiff, Int.reduceEq, Nat.reduceEqDiff, M20Fs63]
    refine ⟨⟨a', c', rfl, by rw [Nat.zero_add] at O; exact O⟩, A.extN O0 ((Ext.refl h).push _) (Nat.le_refl _)⟩
def swj (C : Nat → Nat) (w d : Nat) (l : List Nat) (i : Nat) : Nat := if l.contains i then (if C i = d then C w else d) else C i
def swL (ws : List Wn) (days : List Int) (want day : Int) : List Nat := (List.range ws.length).map (swj (fun i => (natL days).getD i 0) want.toNat day.toNat (chnL ws days want day))
structure SwapP (S M : Int) (ws : List Wn) (days : List Int) (want day : Int) (h0 : Nat) (h' : Eng.Heap) (v : Value) : Prop where
  ok : chnE S M ws days want day = 0 → ∃ a cap, v = .tuple #[.slice a ws.length cap, .int .i64 0] ∧ OwnI h0 h' 3 a ws.length cap (zsN (swL ws days want day))
  no : chnE S M ws days want day ≠ 0 → v = .tuple #[.slice none 0 0, .int .i64 (chnE S M ws days want day)]
end Go.Proofs.Ytmgkeeefbfefgaa
end
