/- Walks: the wants that are reached from one. -/
import Derived.Test.YtmgkeeefbfefgaaM17
import Derived.Test.YtmgkeeefbfefgaaM14
namespace Go.Proofs.Ytmgkeeefbfefgaa
open Go Go.Proofs Go.Eng Go.Run Tab
set_option maxRecDepth 100000
set_option linter.unusedSimpArgs false
set_option linter.unusedVariables false
set_option linter.defProp false
set_option maxHeartbeats 4000000
set_option linter.defProp false
def M18Fs96 := (And.intro (And.intro (And.intro @agg25 (And.intro @agg3 @agg86)) (And.intro @by3 (And.intro @inf25 @inf3))) (And.intro (And.intro @inf86 (And.intro @sz25 @sz3)) (And.intro (And.intro @sz86 @zero25) (And.intro @zero3 @Try.underlying25))))
theorem App.oth {h h' : Eng.Heap} {a a' : Option Addr} {el : TypeId} {len cap : Nat} {xs : List Int} {m c : Nat} {o : Obj} (A : App h h' a a') (O : OwnI m h el a len cap xs) (hc : h[c]? = some o) (hne : ∀ cur, o ≠ .cells cur el (0, 0)) : h'[c]? = some o :=
  (A.old c (lt_of_get hc) fun p hp hpc => by
    rcases O.ok with ⟨h1, _⟩ | ⟨g, cur, h1, h2, h3, _⟩
    · rw [h1] at hp; cases hp
    · rw [h1] at hp; cases hp
      subst hpc
      rw [hc] at h3
      exact hne cur (Option.some.inj h3)).trans hc
theorem OwnI.updO {h h' : Eng.Heap} {a : Option Addr} {el : TypeId} {len cap : Nat} {xs : List Int} {m c : Nat} {o : Obj} (O : OwnI m h el a len cap xs) (u : Upd h h' c) (hc : h[c]? = some o) (hne : ∀ cur, o ≠ .cells cur el (0, 0)) : OwnI m h' el a len cap xs :=
  O.keep fun p hp => u.old _ fun hpc => by
    rcases O.ok with ⟨h1, _⟩ | ⟨g, cur, h1, h2, h3, _⟩
    · rw [h1] at hp; cases hp
    · rw [h1] at hp; cases hp
      subst hpc
      rw [hc] at h3
      exact hne cur (Option.some.inj h3)
theorem Marks.app {h h' : Eng.Heap} {a a' : Option Addr} {el : TypeId} {len cap : Nat} {xs : List Int} {m m0 m1 : Nat} {d : List Deferred} (A : App h h' a a') (O : OwnI m h el a len cap xs) (M : Marks m0 m1 h d) : Marks m0 m1 h' d := by
  obtain ⟨rs, h1, h2, h3⟩ := M
  exact ⟨rs, h1, h2, fun r hr => ⟨(h3 r hr).1, (h3 r hr).2.1, App.oth A O (h3 r hr).2.2 fun cur hh => by cases hh⟩⟩
theorem fin_marks2 {P : Program} {rs : List ResultVar} {K : Value → Eng.Heap → Prop} {e : Eng.Env} {m0 m1 : Nat} {h : Eng.Heap} {d : List Deferred} (M : Marks m0 m1 h d)
    (H : ∀ h', h'.size = h.size → (∀ b : Nat, (b < m0 ∨ m1 ≤ b) → h'[b]? = h[b]?) → (∀ b : Nat, h[b]? ≠ some (Obj.deferred (some [])) → h'[b]? = h[b]?) → resA P rs e [] K h') : finW P rs e d h K := by
  obtain ⟨ls, rfl, hnd, hls⟩ := M
  unfold finW
  have key : ∀ (ls : List Nat) (h : Eng.Heap), ls.Nodup → (∀ r ∈ ls, m0 ≤ r ∧ r < m1 ∧ h[r]? = some (.deferred (some []))) → Marked h (ls.map mkD) ∧ (unmark h (ls.map mkD)).size = h.size ∧ (∀ b : Nat, (b < m0 ∨ m1 ≤ b) → (unmark h (ls.map mkD))[b]? = h[b]?) ∧ (∀ b : Nat, h[b]? ≠ some (Obj.deferred (some [])) → (unmark h (ls.map mkD))[b]? = h[b]?) := by
    intro ls
    induction ls with
    | nil => intro h _ _; exact ⟨trivial, rfl, fun _ _ => rfl, fun _ _ => rfl⟩
    | cons r ls ih =>
      intro h hnd hls
      have hr := hls r List.mem_cons_self
      have h2 := List.nodup_cons.1 hnd
      have := ih (h.setIfInBounds r (Obj.deferred none)) h2.2 (fun q hq => by
        have h3 := hls q (List.mem_cons_of_mem _ hq)
        exact ⟨h3.1, h3.2.1, by
          have hne : r ≠ q := fun he => h2.1 (by rw [he]; exact hq)
          rw [Array.getElem?_setIfInBounds_ne hne]; exact h3.2.2⟩)
      refine ⟨⟨r, rfl, hr.2.2, this.1⟩, ?_, fun b hb => ?_, fun b hb => ?_⟩
      · show (unmark (h.setIfInBounds r (Obj.deferred none)) (ls.map mkD)).size = _
        rw [this.2.1]; simp
      · show (unmark (h.setIfInBounds r (Obj.deferred none)) (ls.map mkD))[b]? = _
        rw [this.2.2.1 b hb, Array.getElem?_setIfInBounds_ne (by omega)]
      · show (unmark (h.setIfInBounds r (Obj.deferred none)) (ls.map mkD))[b]? = _
        have hne : r ≠ b := fun e => hb (by rw [← e]; exact hr.2.2)
        have e2 : (h.setIfInBounds r (Obj.deferred none))[b]? = h[b]? := Array.getElem?_setIfInBounds_ne hne
        rw [this.2.2.2 b (by rw [e2]; exact hb), e2]
  have := key ls h hnd hls
  exact ⟨this.1, H _ this.2.1 this.2.2.1 this.2.2.2⟩
/-- SORT, of a slice of one's own; all other blocks stay. -/
theorem sort73_own2 (m n c : Nat) (a : Option Addr) (xs : List Int) (h : Eng.Heap) (O : OwnI m h 3 a n c xs) (hl : n ≤ 1000000) :
    CallsH Try.prog 73 #[.slice a n c] h (fun v h' => v = .tuple #[] ∧ (h.size ≤ h'.size ∧ ∀ b, b < h.size → (∀ p, a = some p → p.block ≠ b) → h'[b]? = h[b]?) ∧ ∃ ys, ys.Perm xs ∧ srt ys ∧ OwnI m h' 3 a n c ys) := by
  have hn := O.ln
  by_cases h0 : 0 < n
  · obtain ⟨g, tl, rfl, hg, hb, hc, hc2, _⟩ := O.block h0
    refine CallsH.mono (sort73 g c n xs tl h hb hn hl) ?_
    rintro v h' ⟨rfl, ⟨q1, q2⟩, ys, hp, hs, hb2⟩
    have e := hp.length_eq
    refine ⟨rfl, ⟨q1, fun b h1 h2 => q2 b h1 (fun e => h2 _ rfl e.symm)⟩, ys, hp, hs, ?_⟩
    have := OwnI.of_block (xs := ys) (cap := c) hg hb2 (by omega) (by omega)
    rwa [show ys.length = n by omega] at this
  · obtain rfl : n = 0 := by omega
    refine CallsH.mono (sort0 a c h) ?_
    rintro v h' ⟨rfl, rfl⟩
    obtain rfl : xs = [] := List.length_eq_zero_iff.1 hn.symm
    exact ⟨rfl, ⟨Nat.le_refl _, fun b _ _ => rfl⟩, [], List.Perm.refl _, List.Pairwise.nil, O⟩
theorem nrL_mono {ws : List Wn} {i j k : Nat} (h : j ≤ k) : (nrL ws i j).length ≤ (nrL ws i k).length := by
  obtain ⟨M, hM, _⟩ := nrL_pre (ws := ws) (i := i) h
  rw [hM, List.length_append]; omega
theorem nrL_gap {ws : List Wn} {i t y : Nat} (h : (nrL ws i t).length = (nrL ws i y).length) : ∀ z, t ≤ z → z < y → nrB ws i z = false := by
  intro z h1 h2
  cases hb : nrB ws i z with
  | false => rfl
  | true =>
    have e := congrArg List.length (nrL_yes hb)
    rw [List.length_append, List.length_singleton] at e
    have a1 := nrL_mono (ws := ws) (i := i) h1
    have a2 := nrL_mono (ws := ws) (i := i) (show z + 1 ≤ y by omega)
    omega
theorem nrL_nodup {ws : List Wn} {i n : Nat} : (nrL ws i n).Nodup := List.Pairwise.filter _ List.nodup_range
theorem nrL_sorted {ws : List Wn} {i n : Nat} : (nrL ws i n).Pairwise (· < ·) := List.Pairwise.filter _ List.pairwise_lt_range
theorem nrL_idx {ws : List Wn} {i n q y : Nat} (h : (nrL ws i n)[q]? = some y) : y < n ∧ nrB ws i y = true ∧ (nrL ws i y).length = q := by
  have hm := List.mem_of_getElem? h
  have hy := (List.mem_filter.1 hm).2
  have hlt := List.mem_range.1 (List.mem_filter.1 hm).1
  refine ⟨hlt, hy, ?_⟩
  have h2 := nrL_at hlt hy
  obtain ⟨q1, e1⟩ := List.getElem?_eq_some_iff.1 h
  obtain ⟨q2, e2⟩ := List.getElem?_eq_some_iff.1 h2
  have hp := List.pairwise_iff_getElem.1 (nrL_sorted (ws := ws) (i := i) (n := n))
  apply Classical.byContradiction
  intro hne
  rcases Nat.lt_or_ge (nrL ws i y).length q with h3 | h3
  · have := hp _ _ q2 q1 h3; omega
  · have := hp _ _ q1 q2 (by omega); omega
theorem bf_skip {sh mo C : Nat → Nat} {n w d q x : Nat} {ws : List Wn} {out : List Nat} (hsh : sh = shN ws) (hmo : mo = moN ws) (hx : out.getD q 0 = x) (hxo : x ∈ out) : ∀ (y t : Nat), t ≤ y → (∀ z, t ≤ z → z < y → nrB ws x z = false) → MB.Bf sh mo C n w d out q t → MB.Bf sh mo C n w d out q y
  | 0, t, ht, _, B => by
    obtain rfl : t = 0 := by omega
    exact B
  | y + 1, t, ht, hz, B => by
    by_cases e : t = y + 1
    · subst e; exact B
    · have B2 := bf_skip hsh hmo hx hxo y t (by omega) (fun z h1 h2 => hz z h1 (by omega)) B
      refine B2.skip fun hc _ => ?_
      have := hz y (by omega) (by omega)
      rw [hx, hsh, hmo] at hc
      unfold nrB at this
      rw [hc] at this
      simp at this
      rw [this]; exact hxo
theorem zsN_contains {l : List Nat} {y : Nat} : (zsN l).contains ((y : Nat) : Int) = l.contains y := by
  rw [Bool.eq_iff_iff, List.contains_iff_mem, List.contains_iff_mem, zsN, List.mem_map]
  constructor
  · rintro ⟨x, hx, e⟩
    rw [← show x = y by omega]; exact hx
  · intro h; exact ⟨y, h, rfl⟩
theorem reached96 (g b S M : Nat) (a : Option Addr) (n c : Nat) (ws : List Wn) (w d : Nat) (C : Nat → Nat) (q : FuncId) (caps : Array Value) (h : Eng.Heap) (hg : DeskB h g b S M a n c) (hr : Row h a (wsV ws)) (hn : n = ws.length) (V : Vb S M ws) (hw : w < ws.length)
    (hof : ∀ k, k < n → ∀ h', Ext h h' → CallsH Try.prog q (#[] ++ #[.int .i64 (k : Nat)] ++ caps) h' (fun v h'' => v = .bool (decide (C k = C w) || decide (C k = d)) ∧ h'' = h')) :
    CallsH Try.prog 96 #[.pointer (some ⟨g, 0, none⟩), .int .i64 w, .func (.func q) #[] caps] h (fun v h' => Ext h h' ∧ NewI h.size h' 3 v (zsN ((List.range n).filter (MB.cit (shN ws) (moN ws) C n w d n)))) := by
  have hV := V.n
  (refine CallsH_of_exec Try.func96 rfl bod96 ?_; simp only [Try.ntmps96, Try.results96, coreS, stK_some, splice, Value.cells, Value.oneCell', Nat.reduceAdd, Nat.reduceSub, Nat.reduceMul, Nat.reduceLeDiff, Int.reduceEq, Nat.reduceEqDiff, M18Fs96])
  obtain ⟨H2, hH2⟩ : ∃ H2, H2 = updH (((h.push (.cells #[.func (.func q) #[] caps] 86)).push (.cells #[.int .i64 (w : Int)] 3)).push (.cells #[.slice none 0 0] 25)) (h.size + 1 + 1) [.slice (some ⟨h.size + 1, 0, none⟩) 1 1] 25 := ⟨_, rfl⟩
  have g2 : H2[h.size + 1 + 1]? = some (.cells #[.slice (some ⟨h.size + 1, 0, none⟩) 1 1] 25) := by rw [hH2]; exact upd_same (c := [.slice (some ⟨h.size + 1, 0, none⟩) 1 1]) (by simp)
  have u2 : Upd (((h.push (.cells #[.func (.func q) #[] caps] 86)).push (.cells #[.int .i64 (w : Int)] 3)).push (.cells #[.slice none 0 0] 25)) H2 (h.size + 1 + 1) := by rw [hH2]; exact Upd.updH
  have hs2 : H2.size = h.size + 3 := by rw [u2.size]; simp
  have g0 : H2[h.size]? = some (.cells #[.func (.func q) #[] caps] 86) := u2.get (push_old (pn0 (h := h))) (by omega)
  have g1 : H2[h.size + 1]? = some (.cells #[.int .i64 (w : Int)] 3) := u2.get (push_old (pn1 (h := h))) (by omega)
  have x2 : Ext h H2 := u2.ext ((((Ext.refl h).push _).push _).push _) (by omega)
  rw [← hH2]
  clear hH2 u2
  refine WP_loopD [8, 9, 12, 13, 14, 15, 16, 17, 18, 19, 20, 21, 22, 23, 25, 26, 27, 28, 29, 30, 31, 32, 33, 34, 35, 36, 37] (fun e dd h' => ∃ (out : List Nat) (k cap : Nat) (a' : Option Addr), e 8 = .int .i64 k ∧ k ≤ out.length ∧ Ext h h' ∧ h.size + 3 ≤ h'.size ∧ Marks (h.size + 3) h'.size h' dd ∧ h'[h.size]? = some (.cells #[.func (.func q) #[] caps] 86) ∧ h'[h.size + 1 + 1]? = some (.cells #[.slice a' out.length cap] 25) ∧ OwnI (h.size + 1) h' 3 a' out.length cap (zsN out) ∧ MB.Bf (shN ws) (moN ws) C n w d out k 0) (fun e _ => match e 8 with | .int _ q => n - q.toNat | _ => 0) ⟨[w], 0, 1, some ⟨h.size + 1, 0, none⟩, rfl, by omega, x2, by omega, Marks.nil _ _ _, g0, g2, ⟨rfl, .inr ⟨h.size + 1, _, rfl, Nat.le_refl _, g1, Nat.le_refl _, Nat.le_refl _, rfl⟩⟩, MB.Bf.start (by omega)⟩ ?_
  clear g0 g1 g2 x2 hs2
  rintro e dC hC ⟨out, k, cap, a', he, hk, yC, hsC, mC, k0, k2, O, B⟩
  have hLn := B.size
  by_cases hlt : k < out.length
  · have hlt2 : (k : Int) < out.length := by omega
    have kc := (O.ints).cell (j := k) (by rw [zsN_length]; exact hlt)
    have sa := O.ints.isSome (by rw [zsN_length]; omega)
    have exk : (zsN out).getD k 0 = ((out.getD k 0 : Nat) : Int) := by simp [zsN, List.getD_eq_getElem?_getD, List.getElem?_eq_getElem hlt]
    rw [exk] at kc
    simp only [he, k2, kc, hlt2, decide_true, Int.toNat_natCast, coreS, Value.cells, Value.oneCell', Nat.reduceAdd, Nat.reduceSub, Nat.reduceMul, Nat.reduceLeDiff, Int.reduceEq, Nat.reduceEqDiff, M18Fs96]
    refine ⟨by omega, sa, ?_⟩
    obtain ⟨x, hx⟩ : ∃ x, x = out.getD k 0 := ⟨_, rfl⟩
    have hxL : x ∈ out := by rw [hx]; exact MB.getD_mem hlt
    have hxn : x < n := B.lt x hxL
    rw [← hx]
    refine CallsH.mono (near112 g x hC) ?_
    rintro v4 h4 ⟨rfl, hh4⟩
    have xC4 : Ext hC h4 := by rw [hh4]; exact ((Ext.refl hC).push _).push _
    have f1 : h4[hC.size]? = some (.cells #[.pointer (some ⟨g, 0, none⟩)] 64) := by rw [hh4]; exact pn0
    have f2 : h4[hC.size + 1]? = some (.cells #[.int .i64 (x : Int)] 3) := by rw [hh4]; exact pn1
    have x4 : Ext h h4 := yC.trans xC4
    have s4 : h4.size = hC.size + 2 := by rw [hh4]; simp
    have j0 := xC4.get k0
    have j2 := xC4.get k2
    have mk4 := mC.ext xC4
    have O4 := O.ext xC4
    have hab : ∀ p, a' = some p → p.block < hC.size ∨ hC.size + 4 ≤ p.block := fun p hp => .inl (O.lt hp).1
    clear hh4 k0 k2
    have elen : (nrX (nrL ws x n)).length = (nrL ws x n).length := by simp [nrX]
    simp only [coreS, Value.cells, Value.oneCell', Nat.reduceAdd, Nat.reduceSub, Nat.reduceMul, Nat.reduceLeDiff, Int.reduceEq, Nat.reduceEqDiff, M18Fs96]
    refine WP_rangeI (xss := nrX (nrL ws x n)) rfl (near_seq (b1 := hC.size) (b2 := hC.size + 1) (g := g) (b := b) (S := S) (M := M) (a := a) (c := c) hn V (by omega)) (fun r h' => ∃ (out' : List Nat) (cap' : Nat) (a'' : Option Addr) (t : Nat), Ext h h' ∧ h'[hC.size]? = some (.cells #[.pointer (some ⟨g, 0, none⟩)] 64) ∧ h'[hC.size + 1]? = some (.cells #[.int .i64 (x : Int)] 3) ∧ h'[hC.size + 2]? = some (.deferred (some [])) ∧ hC.size + 4 ≤ h'.size ∧ Marks (h.size + 3) hC.size h' dC ∧ h'[h.size]? = some (.cells #[.func (.func q) #[] caps] 86) ∧ h'[h.size + 1 + 1]? = some (.cells #[.slice a'' out'.length cap'] 25) ∧ OwnI (h.size + 1) h' 3 a'' out'.length cap' (zsN out') ∧ MB.Bf (shN ws) (moN ws) C n w d out' k t ∧ t ≤ n ∧ (nrL ws x t).length = r ∧ out'.getD k 0 = x ∧ x ∈ out' ∧ k < out'.length ∧ (∀ p, a'' = some p → p.block < hC.size ∨ hC.size + 4 ≤ p.block)) (fun j h' => False) ?_ ?_ ?_ ?_ ?_ ?_ ?_ ?_
    · intro vs hvs
      simp only [nrX, List.mem_map] at hvs
      obtain ⟨_, _, rfl⟩ := hvs
      rfl
    · rintro r h' ⟨out', cap', a'', t, z0, z1, z2, z3, z4, zM, z5, z6, zO, zB, zt, zr, zx, zm, zk, zA⟩
      exact ⟨hr.ext z0, z0.get hg, z1, z2⟩
    · rintro r h5 h6 ⟨out', cap', a'', t, z0, z1, z2, z3, z4, zM, z5, z6, zO, zB, zt, zr, zx, zm, zk, zA⟩ u
      rw [s4] at u
      exact ⟨out', cap', a'', t, u.ext z0 (by omega), u.get z1 (by omega), u.get z2 (by omega), u.get z3 (by omega), by rw [u.size]; exact z4, zM.upd u (by omega), u.get z5 (by omega), u.get z6 (by omega), zO.keep fun p hp => u.old _ (by have := zA p hp; omega), zB, zt, zr, zx, zm, zk, zA⟩
    · exact fun j h1 h2 H _ => H
    · intro h' x' z1 z2
      rw [s4] at z1 z2
      exact ⟨out, cap, a', 0, x4.trans x', x'.get f1, x'.get f2, z1, by omega, mk4.ext x', x'.get j0, x'.get j2, O4.ext x', B, by omega, rfl, hx.symm, hxL, hlt, hab⟩
    · rintro r h5 vs o hvs ⟨out', cap', a'', t, z0, z1, z2, z3, z4, zM, z5, z6, zO, zB, zt, zr, zx, zm, zk, zA⟩ ho5
      rw [s4] at ho5 ⊢
      obtain ⟨y, hy, rfl⟩ : ∃ y : Nat, (nrL ws x n)[r]? = some y ∧ vs = [.int .i64 (y : Nat)] := by
        rw [nrX, List.getElem?_map] at hvs
        cases hq : (nrL ws x n)[r]? with
        | none => rw [hq] at hvs; cases hvs
        | some y => rw [hq] at hvs; simp at hvs; exact ⟨y, rfl, hvs.symm⟩
      obtain ⟨hyn, hyb, hyr⟩ := nrL_idx hy
      have hty : t ≤ y := by
        apply Classical.byContradiction
        intro hh
        have e1 := congrArg List.length (nrL_yes hyb)
        rw [List.length_append, List.length_singleton] at e1
        have e2 := nrL_mono (ws := ws) (i := x) (show y + 1 ≤ t by omega)
        omega
      have B2 := bf_skip rfl rfl zx zm y t hty (nrL_gap (by rw [zr, hyr])) zB
      have hycl : MB.clash (shN ws) (moN ws) (out'.getD k 0) y = true := by
        rw [zx]; unfold nrB at hyb; simp only [Bool.and_eq_true] at hyb; exact hyb.2
      have hnext : (nrL ws x (y + 1)).length = r + 1 := by rw [nrL_yes hyb, List.length_append, hyr]; rfl
      have hLn' := zB.size
      simp only [asgI_normal, coreS, Value.cells, Value.oneCell', Nat.reduceAdd, Nat.reduceSub, Nat.reduceMul, Nat.reduceLeDiff, Int.reduceEq, Nat.reduceEqDiff, scopeK_normal, scopeK_ret, scopeK_exit, callV_yield, binds_cons, binds_nil, M18Fs96]
      refine ⟨ho5, fun h6 o2 u6 ho2 => ?_⟩
      have qx := u6.ext z0 (by omega)
      have q1 := u6.get z1 (by omega)
      have q2 := u6.get z2 (by omega)
      have q3 := u6.get z3 (by omega)
      have qM := zM.upd u6 (by omega)
      have q5 := u6.get z5 (by omega)
      have q6 := u6.get z6 (by omega)
      have qO := zO.keep (h' := h6) fun p hp => u6.old _ (by have := zA p hp; omega)
      have qs := u6.size
      clear z0 z1 z2 z3 zM z5 z6 zO ho5
      simp only [q5, coreS, Value.cells, Value.oneCell', Nat.reduceAdd, Nat.reduceSub, Nat.reduceMul, Nat.reduceLeDiff, Int.reduceEq, Nat.reduceEqDiff, scopeK_normal, scopeK_ret, scopeK_exit, callV_yield, binds_cons, binds_nil, M18Fs96]
      refine CallsH.mono (hof y hyn h6 qx) ?_
      rintro v7 h7 ⟨rfl, rfl⟩
      have stay : ∀ h9, ((C y = C w ∨ C y = d) → y ∈ out') → Ext h7 h9 → ∃ (out' : List Nat) (cap' : Nat) (a'' : Option Addr) (t : Nat), Ext h h9 ∧ h9[hC.size]? = some (.cells #[.pointer (some ⟨g, 0, none⟩)] 64) ∧ h9[hC.size + 1]? = some (.cells #[.int .i64 (x : Int)] 3) ∧ h9[hC.size + 2]? = some (.deferred (some [])) ∧ hC.size + 4 ≤ h9.size ∧ Marks (h.size + 3) hC.size h9 dC ∧ h9[h.size]? = some (.cells #[.func (.func q) #[] caps] 86) ∧ h9[h.size + 1 + 1]? = some (.cells #[.slice a'' out'.length cap'] 25) ∧ OwnI (h.size + 1) h9 3 a'' out'.length cap' (zsN out') ∧ MB.Bf (shN ws) (moN ws) C n w d out' k t ∧ t ≤ n ∧ (nrL ws x t).length = r + 1 ∧ out'.getD k 0 = x ∧ x ∈ out' ∧ k < out'.length ∧ (∀ p, a'' = some p → p.block < hC.size ∨ hC.size + 4 ≤ p.block) := fun h9 hh x9 =>
        ⟨out', cap', a'', y + 1, qx.trans x9, x9.get q1, x9.get q2, x9.get q3, by have := x9.size; omega, qM.ext x9, x9.get q5, x9.get q6, qO.ext x9, B2.skip fun _ hcol => hh hcol, by omega, hnext, zx, zm, zk, zA⟩
      cases hp : (decide (C y = C w) || decide (C y = d)) with
      | false =>
        simp only [endI_normal, coreS, Value.cells, Value.oneCell', Nat.reduceAdd, Nat.reduceSub, Nat.reduceMul, Nat.reduceLeDiff, Int.reduceEq, Nat.reduceEqDiff, scopeK_normal, scopeK_ret, scopeK_exit, callV_yield, binds_cons, binds_nil, M18Fs96]
        refine ⟨ho2, stay _ (fun hcol => ?_) (Ext.refl _)⟩
        simp at hp
        rcases hcol with h1 | h1
        · exact absurd h1 hp.1
        · exact absurd h1 hp.2
      | true =>
        have hcol : C y = C w ∨ C y = d := by simpa using hp
        simp only [q6, coreS, Value.cells, Value.oneCell', Nat.reduceAdd, Nat.reduceSub, Nat.reduceMul, Nat.reduceLeDiff, Int.reduceEq, Nat.reduceEqDiff, scopeK_normal, scopeK_ret, scopeK_exit, callV_yield, binds_cons, binds_nil, M18Fs96]
        refine CallsH.mono (contains66 a'' _ cap' (zsN out') y _ qO.ints (by omega)) ?_
        rintro v8 h8 ⟨rfl, x8⟩
        rw [zsN_contains]
        cases hct : out'.contains y with
        | true =>
          simp only [Bool.not_true, endI_normal, coreS, Value.cells, Value.oneCell', Nat.reduceAdd, Nat.reduceSub, Nat.reduceMul, Nat.reduceLeDiff, Int.reduceEq, Nat.reduceEqDiff, scopeK_normal, scopeK_ret, scopeK_exit, callV_yield, binds_cons, binds_nil, M18Fs96]
          exact ⟨x8.get ho2, stay _ (fun _ => List.contains_iff_mem.1 hct) x8⟩
        | false =>
          have hno : y ∉ out' := fun hm => by rw [List.contains_iff_mem.2 hm] at hct; cases hct
          have R2 := B2.add zk hyn hycl hcol.symm.symm hno
          have r1 := x8.get q1
          have r2 := x8.get q2
          have r3 := x8.get q3
          have rM := qM.ext x8
          have r5 := x8.get q5
          have r6 := x8.get q6
          have rO := qO.ext x8
          have rx := qx.trans x8
          have ro := x8.get ho2
          have rs := x8.size
          clear q1 q2 q3 qM q5 q6 qO qx stay
          simp only [r6, splice, Bool.not_false, coreS, Value.cells, Value.oneCell', Nat.reduceAdd, Nat.reduceSub, Nat.reduceMul, Nat.reduceLeDiff, Int.reduceEq, Nat.reduceEqDiff, scopeK_normal, scopeK_ret, scopeK_exit, callV_yield, binds_cons, binds_nil, M18Fs96]
          have rO7 := rO.ext ((Ext.refl h8).push (.cells #[.int .i64 (y : Int)] 3))
          refine app25 (m0 := h.size + 1) (len := out'.length) (m := 1) (xs := zsN out') (ys := [(y : Int)]) (by rfl) (by rfl) rO7 (by rw [push_size]; have := rx.size; omega) (intsV_one push_new) (by omega) fun a8 c8 h9 O8 A8 => ?_
          have ezn : zsN out' ++ [(y : Int)] = zsN (out' ++ [y]) := by simp [zsN]
          rw [ezn] at O8
          have t1 := App.oth A8 rO7 (push_old r1) (fun cur hh => by cases hh)
          have t2 : h9[hC.size + 1]? = some (.cells #[.int .i64 (x : Int)] 3) := (A8.old _ (by rw [push_size]; omega) fun p hp => by have := zA p hp; omega).trans (push_old r2)
          have t3 := App.oth A8 rO7 (push_old r3) (fun cur hh => by cases hh)
          have tM := Marks.app A8 rO7 (rM.ext ((Ext.refl h8).push (.cells #[.int .i64 (y : Int)] 3)))
          have t5 := App.oth A8 rO7 (push_old r5) (fun cur hh => by cases hh)
          have t6 := App.oth A8 rO7 (push_old r6) (fun cur hh => by cases hh)
          have tx : Ext h h9 := A8.extN rO7 (rx.push _) (by omega)
          have ts := A8.size
          rw [push_size] at ts
          have tA : ∀ p, a8 = some p → p.block < hC.size ∨ hC.size + 4 ≤ p.block := fun p hp => by
            rcases A8.to p hp with ⟨q0, hq0, hqb⟩ | hge
            · have := zA q0 hq0; omega
            · rw [push_size] at hge; omega
          have hll : (out' ++ [y]).length = out'.length + 1 := by simp
          have to2 : h9[hC.size + 2 + 1]? = some o2 := (A8.old _ (by rw [push_size]; omega) fun p hp => by have := zA p hp; omega).trans (push_old ro)
          simp only [t6, splice, coreS, Value.cells, Value.oneCell', Nat.reduceAdd, Nat.reduceSub, Nat.reduceMul, Nat.reduceLeDiff, Int.reduceEq, Nat.reduceEqDiff, scopeK_normal, scopeK_ret, scopeK_exit, callV_yield, binds_cons, binds_nil, M18Fs96]
          refine stK_abs t6 (by simp) fun h10 g10 u10 => ?_
          simp only [splice] at g10
          have O10 := OwnI.updO O8 u10 t6 (fun cur hh => by cases hh)
          rw [← hll] at O10
          simp only [splice, endI_normal, coreS, Value.cells, Value.oneCell', Nat.reduceAdd, Nat.reduceSub, Nat.reduceMul, Nat.reduceLeDiff, Int.reduceEq, Nat.reduceEqDiff, scopeK_normal, scopeK_ret, scopeK_exit, callV_yield, binds_cons, binds_nil, M18Fs96]
          refine ⟨u10.get to2 (by omega), out' ++ [y], c8, a8, y + 1, u10.ext tx (by omega), u10.get t1 (by omega), u10.get t2 (by omega), u10.get t3 (by omega), by rw [u10.size]; omega, tM.upd u10 (by omega), u10.get t5 (by omega), ?_, O10, R2, by omega, hnext, ?_, List.mem_append_left _ zm, by omega, tA⟩
          · rw [g10, hll]; rfl
          · rw [MB.getD_app zk]; exact zx
    · rintro h5 ⟨out', cap', a'', t, z0, z1, z2, z3, z4, zM, z5, z6, zO, zB, zt, zr, zx, zm, zk, zA⟩
      rw [s4]
      have B2 := bf_skip rfl rfl zx zm n t zt (nrL_gap (by rw [zr, elen])) zB
      have hLn' := zB.size
      simp only [he, coreS, Value.cells, Value.oneCell', Nat.reduceAdd, Nat.reduceSub, Nat.reduceMul, Nat.reduceLeDiff, Int.reduceEq, Nat.reduceEqDiff, scopeK_normal, scopeK_ret, scopeK_exit, callV_yield, binds_cons, binds_nil, M18Fs96]
      refine ⟨by rw [inK_i64]; omega, roundD_mk (by kernel_rfl) ⟨out', k + 1, cap', a'', rfl, by omega, z0, by omega, zM.cons z3 (by omega) (by omega) (by omega), z5, z6, zO, B2.next⟩ ?_⟩
      show n - ((k : Int) + 1).toNat < n - (k : Int).toNat
      omega
    · exact fun j h' H => H.elim
  · have hlt2 : ¬ (k : Int) < out.length := by omega
    obtain rfl : k = out.length := by omega
    simp only [he, k2, hlt2, decide_false, coreS, Value.cells, Value.oneCell', Nat.reduceAdd, Nat.reduceSub, Nat.reduceMul, Nat.reduceLeDiff, Int.reduceEq, Nat.reduceEqDiff, M18Fs96]
    refine CallsH.mono (sort73_own2 (h.size + 1) _ cap a' (zsN out) hC O (by omega)) ?_
    rintro v h9 ⟨rfl, ⟨q1, q2⟩, ys, hp, hs, O9⟩
    have hne : ∀ i o, hC[i]? = some o → (∀ cur, o ≠ Obj.cells cur 3 (0, 0)) → h9[i]? = some o := fun i o hi ho => (q2 i (lt_of_get hi) fun p hp hpb => by
      rcases O.ok with ⟨h1, _⟩ | ⟨g', cur, h1, h2, h3, _⟩
      · rw [h1] at hp; cases hp
      · rw [h1] at hp; cases hp
        subst hpb
        rw [hi] at h3
        exact ho cur (Option.some.inj h3)).trans hi
    have k2' := hne _ _ k2 (fun cur hh => by cases hh)
    have mC' : Marks (h.size + 3) hC.size h9 dC := by
      obtain ⟨rs, e1, e2, e3⟩ := mC
      exact ⟨rs, e1, e2, fun r hr => ⟨(e3 r hr).1, (e3 r hr).2.1, hne _ _ (e3 r hr).2.2 (fun cur hh => by cases hh)⟩⟩
    simp only [k2', coreS, Value.cells, Value.oneCell', Nat.reduceAdd, Nat.reduceSub, Nat.reduceMul, Nat.reduceLeDiff, Int.reduceEq, Nat.reduceEqDiff, M18Fs96]
    refine fin_marks2 mC' fun h10 hs10 hk10 hn10 => ?_
    have h0 : ∀ x ∈ zsN out, 0 ≤ x := fun x hx => by
      obtain ⟨y, _, rfl⟩ := List.mem_map.1 hx
      omega
    have hy0 : ∀ x ∈ ys, 0 ≤ x := fun x hx => h0 x (hp.mem_iff.1 hx)
    have hys := zsN_natL hy0
    have hpn : (natL ys).Perm out := by
      have := hp.map Int.toNat
      have e : (zsN out).map Int.toNat = out := natL_zsN out
      rw [e] at this
      exact this
    have hsn : (natL ys).Pairwise (· ≤ ·) := by
      unfold natL
      rw [List.pairwise_map]
      exact hs.imp fun {a b} h => by omega
    have hfin := B.sorted (by omega) hsn hpn
    rw [← hfin, hys]
    simp only [coreS, Value.cells, Value.oneCell', Nat.reduceAdd, Nat.reduceSub, Nat.reduceMul, Nat.reduceLeDiff, Int.reduceEq, Nat.reduceEqDiff, M18Fs96]
    have hyl : ys.length = out.length := by rw [hp.length_eq, zsN_length]
    refine ⟨⟨by have := yC.size; omega, fun i hi => ?_⟩, a', cap, by rw [hyl], ?_⟩
    · rw [hk10 i (by omega), q2 i (by omega) fun p hp => by have := (O.lt hp).2; omega]
      exact yC.old i hi
    · rw [hyl]
      refine OwnI.mono (OwnI.keep O9 fun p hp => hn10 _ ?_) (by omega)
      rcases O9.ok with ⟨h1, _⟩ | ⟨g', cur, h1, h2, h3, _⟩
      · rw [h1] at hp; cases hp
      · rw [h1] at hp; cases hp
        intro hh
        have h3' : h9[g']? = some (Obj.cells cur 3 (0, 0)) := h3
        rw [show h9[g']? = some (Obj.deferred (some [])) from hh] at h3'
        cases h3'
end Go.Proofs.Ytmgkeeefbfefgaa
