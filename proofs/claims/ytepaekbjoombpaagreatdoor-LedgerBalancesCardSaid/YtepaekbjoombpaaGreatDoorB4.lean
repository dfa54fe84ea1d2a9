/- Walks: Moves, of the program. -/
import Derived.Test.YtepaekbjoombpaaGreatDoorB3
namespace Go.Proofs.YtepaekbjoombpaaGreatDoor
open Go Go.Proofs Go.Eng Tab
set_option maxRecDepth 100000
set_option linter.unusedSimpArgs false
set_option linter.unusedVariables false
set_option maxHeartbeats 2000000
theorem app40 {h : Eng.Heap} {er : Env} {ty : TypeId} {m0 : Nat} {x y : Operand} {a b : Option Addr} {len cap m c : Nat} {xs ys : List Int} {K : Value → Eng.Heap → Prop} (hx : ev er x = .slice a len cap) (hy : ev er y = .slice b m c) (O : OwnI m0 h 3 a len cap xs) (h0h : m0 ≤ h.size) (I : IntsV h b m ys) (hb : len + m ≤ 100000)
    (H : ∀ a' cap' h', OwnI m0 h' 3 a' (len + m) cap' (xs ++ ys) → App h h' a a' → K (.slice a' (len + m) cap') h') : opSem Tryz.prog (.call ⟨.builtin .append, #[x, y], #[40, 40]⟩) ty er h K :=
  append_intsT Tryz.underlying40 Tryz.underlying40 inf3 sz3 (by rw [by3]; decide) zero3 hx hy O h0h I hb H
theorem moves81 (g0 : Nat) (who : Int) (h : Eng.Heap) : CallsH Tryz.prog 81 #[.pointer (some ⟨g0, 0, none⟩), .int .i64 who] h (fun v h' => v = .func (.func 114) #[] #[.pointer (some ⟨h.size, 0, none⟩), .pointer (some ⟨h.size + 1, 0, none⟩)] ∧ h' = (h.push (.cells #[.pointer (some ⟨g0, 0, none⟩)] 96)).push (.cells #[.int .i64 who] 3)) := by
  refine CallsH_of_exec Tryz.func81 rfl bod81 ?_
  simp only [Tryz.ntmps81, Tryz.results81, coreS, stK_some, splice, Value.cells, Value.oneCell', Nat.reduceAdd, Nat.reduceSub, Nat.reduceMul, Nat.reduceLeDiff, Int.reduceEq, Nat.reduceEqDiff]
theorem eltP_zero {a : Option Addr} : eltP a 0 = a := by cases a <;> simp [eltP, addA]
def dayB (es : List En) (lo hi : Int) (j : Nat) : Bool := match es[j]? with
  | some e => decide (lo ≤ e.d) && decide (e.d ≤ hi)
  | none => false
def zsN (l : List Nat) : List Int := l.map fun j : Nat => (j : Int)
def movL (who lo hi : Int) (es : List En) (n : Nat) : List Int := zsN ((movI who es n).filter (dayB es lo hi))
noncomputable def movE (acc cl who lo hi : Int) (es : List En) : Int := if chk acc cl es ≠ 0 then chk acc cl es else if ¬ (0 ≤ who ∧ who < acc) then 2 else if ¬ ((0 ≤ lo ∧ lo ≤ 30) ∧ 0 ≤ hi ∧ hi ≤ 30) then 3 else 0
noncomputable def movR (acc cl who lo hi : Int) (es : List En) : List Int := if movE acc cl who lo hi es = 0 then movL who lo hi es es.length else []
theorem movI_lt {who : Int} {es : List En} {n i : Nat} (h : i ∈ movI who es n) : i < n ∧ i < es.length := by
  unfold movI at h
  rw [List.mem_filter] at h
  obtain ⟨h1, h2⟩ := h
  refine ⟨by simpa using h1, ?_⟩
  unfold touch at h2
  cases hq : es[i]? with
  | none => simp [hq] at h2
  | some e => exact (List.getElem?_eq_some_iff.1 hq).1
theorem filt_next {α : Type} {p : α → Bool} {l : List α} {i : Nat} (hi : i < l.length) : (l.take (i + 1)).filter p = (l.take i).filter p ++ (if p l[i] then [l[i]] else []) := by
  rw [List.take_add_one, List.getElem?_eq_getElem hi, List.filter_append]
  congr 1
  cases hp : p l[i] <;> simp [hp]
theorem opn_nil (acc cl : Int) (es : List En) : opn acc cl es [] = chk acc cl es := by
  unfold opn
  by_cases h : chk acc cl es = 0
  · rw [if_neg (by simpa using h), h]; rfl
  · rw [if_pos h]
theorem moves_seq {s g n c : Nat} {acc cl who : Int} {a : Option Addr} {es : List En} (hn : n = es.length) (hl : n ≤ 20) :
    SeqOfE Tryz.prog (.func (.func 114) #[] #[.pointer (some ⟨s + 1, 0, none⟩), .pointer (some ⟨s + 1 + 1, 0, none⟩)]) (fun h' => Row h' a (ensV es) ∧ h'[s + 1]? = some (.cells #[.pointer (some ⟨g, 0, none⟩)] 96) ∧ h'[s + 1 + 1]? = some (.cells #[.int .i64 who] 3) ∧ h'[g]? = some (.cells #[.int .i64 acc, .int .i64 cl, .slice a n c] 150)) (movX es (movI who es n)) := by
  refine ⟨114, _, _, rfl, fun lo h0 J E hx hX hJ step => ?_⟩
  have hlen : (movX es (movI who es n)).length = (movI who es n).length := by simp [movX]
  rw [hlen]
  exact moves114 lo (s + 1) (s + 1 + 1) g acc cl who a n c es h0 hn hl J E hx hX hJ step
theorem moves30 (acc cl : Int) (a : Option Addr) (n c : Nat) (es : List En) (who lo hi : Int) (h : Eng.Heap) (hr : Row h a (ensV es)) (hn : n = es.length) (hl : n ≤ 1000000) :
    CallsH Tryz.prog 30 #[.agg #[.int .i64 acc, .int .i64 cl, .slice a n c], .int .i64 who, .int .i64 lo, .int .i64 hi] h (fun v h' => (∃ b m k, v = .tuple #[.slice b m k, .int .i64 (movE acc cl who lo hi es)] ∧ IntsV h' b m (movR acc cl who lo hi es) ∧ m ≤ 20) ∧ Ext h h') := by
  refine CallsH_of_exec Tryz.func30 rfl bod30 ?_
  simp only [Tryz.ntmps30, Tryz.results30, coreS, stK_some, splice, Value.cells, Value.oneCell', Nat.reduceAdd, Nat.reduceSub, Nat.reduceMul, Nat.reduceLeDiff, Int.reduceEq, Nat.reduceEqDiff, agg24, agg26, agg3, agg40, by3, fo24_0, fo26_0, inf24, inf26, inf3, inf40, sz24, sz26, sz3, sz40, zero26, zero3, zero40, Tryz.underlying40]
  simp only [show ¬ (h.size = h.size + 1 + 1) by omega, if_false, coreS, Value.cells, Value.oneCell', Nat.reduceAdd, Nat.reduceSub, Nat.reduceMul, Nat.reduceLeDiff, Int.reduceEq, Nat.reduceEqDiff, agg24, agg26, agg3, agg40, by3, fo24_0, fo26_0, inf24, inf26, inf3, inf40, sz24, sz26, sz3, sz40, zero26, zero3, zero40, Tryz.underlying40]
  refine CallsH.mono (open72 acc cl a n c es _ 0 0 [] _ (((hr.push _).push _).push _) hn hl (IntsV.nil _) (by omega)) ?_
  rintro v h1 ⟨x1, H⟩
  have hb0 := x1.get (push_old (push_old (push_new (h := h))))
  have hb1 := x1.get (push_old pn1)
  have hb2 : h1[h.size + 2]? = some (.cells #[.int .i64 hi] 3) := x1.get (by rw [Array.getElem?_push, if_pos (by simp)])
  have y1 := x1.of_push.of_push.of_push
  rw [opn_nil] at H
  rcases H with ⟨e0, g, rfl, hg, hsz⟩ | ⟨e0, rfl⟩
  · obtain ⟨ha, hl2, hcl, hok, hso, hft⟩ := chk_ok e0
    simp only [hb0, coreS, Value.cells, Value.oneCell', Nat.reduceAdd, Nat.reduceSub, Nat.reduceMul, Nat.reduceLeDiff, Int.reduceEq, Nat.reduceEqDiff, agg24, agg26, agg3, agg40, by3, fo24_0, fo26_0, inf24, inf26, inf3, inf40, sz24, sz26, sz3, sz40, zero26, zero3, zero40, Tryz.underlying40]
    refine ⟨by rw [inK_i64]; omega, ?_⟩
    refine CallsH.mono (within71 0 (acc - 1) _ 1 1 [who] _ (intsV_one push_new) (by omega)) ?_
    rintro v h2 ⟨rfl, x2⟩
    have c1 := x2.of_push.get hb1
    have c2 := x2.of_push.get hb2
    have cg := x2.of_push.get hg
    have y2 := y1.trans x2.of_push
    by_cases hw : 0 ≤ who ∧ who ≤ acc - 1
    · simp only [inB_one, hw, c1, c2, and_self, decide_true, Bool.not_true, splice, coreS, Value.cells, Value.oneCell', Nat.reduceAdd, Nat.reduceSub, Nat.reduceMul, Nat.reduceLeDiff, Int.reduceEq, Nat.reduceEqDiff, agg24, agg26, agg3, agg40, by3, fo24_0, fo26_0, inf24, inf26, inf3, inf40, sz24, sz26, sz3, sz40, zero26, zero3, zero40, Tryz.underlying40]
      refine CallsH.mono (within71 0 30 _ 2 2 [lo, hi] _ (intsV_two push_new) (by omega)) ?_
      rintro v h3 ⟨rfl, x3⟩
      have d1 := x3.of_push.get c1
      have d2 := x3.of_push.get c2
      have dg := x3.of_push.get cg
      have y3 := y2.trans x3.of_push
      by_cases hd : (0 ≤ lo ∧ lo ≤ 30) ∧ 0 ≤ hi ∧ hi ≤ 30
      · have hE : movE acc cl who lo hi es = 0 := by unfold movE; rw [if_neg (by simpa using e0), if_neg (by omega), if_neg (by omega)]
        simp only [inB_two, hd, and_self, decide_true, Bool.not_true, coreS, Value.cells, Value.oneCell', Nat.reduceAdd, Nat.reduceSub, Nat.reduceMul, Nat.reduceLeDiff, Int.reduceEq, Nat.reduceEqDiff, agg24, agg26, agg3, agg40, by3, fo24_0, fo26_0, inf24, inf26, inf3, inf40, sz24, sz26, sz3, sz40, zero26, zero3, zero40, Tryz.underlying40]
        refine CallsH.mono (moves81 g who _) ?_
        rintro v h4 ⟨rfl, rfl⟩
        simp only [coreS, Value.cells, Value.oneCell', Nat.reduceAdd, Nat.reduceSub, Nat.reduceMul, Nat.reduceLeDiff, Int.reduceEq, Nat.reduceEqDiff, agg24, agg26, agg3, agg40, by3, fo24_0, fo26_0, inf24, inf26, inf3, inf40, sz24, sz26, sz3, sz40, zero26, zero3, zero40, Tryz.underlying40]
        obtain ⟨L, hL⟩ : ∃ L, L = movI who es n := ⟨_, rfl⟩
        have hLl : L.length ≤ n := by rw [hL, movI]; exact Nat.le_trans (List.length_filter_le _ _) (by simp)
        have hLm : ∀ j ∈ L, j < n ∧ j < es.length := fun j hj => movI_lt (by rw [hL] at hj; exact hj)
        have hseq := moves_seq (s := h3.size) (g := g) (c := c) (acc := acc) (cl := cl) (who := who) (a := a) hn (by omega)
        rw [← hL] at hseq
        have hr3 := hr.ext y3
        obtain ⟨h4, hh4⟩ : ∃ h4, h4 = ((h3.push (.cells #[.slice none 0 0] 40)).push (.cells #[.pointer (some ⟨g, 0, none⟩)] 96)).push (.cells #[.int .i64 who] 3) := ⟨_, rfl⟩
        have f0 : h4[h3.size]? = some (.cells #[.slice none 0 0] 40) := by rw [hh4]; exact push_old (push_old push_new)
        have f1 : h4[h3.size + 1]? = some (.cells #[.pointer (some ⟨g, 0, none⟩)] 96) := by rw [hh4]; exact push_old pn1
        have f2 : h4[h3.size + 1 + 1]? = some (.cells #[.int .i64 who] 3) := by rw [hh4, Array.getElem?_push, if_pos (by simp)]
        have x4 : Ext h3 h4 := by rw [hh4]; exact (((Ext.refl h3).push _).push _).push _
        have s4 : h4.size = h3.size + 3 := by rw [hh4]; simp
        rw [← hh4]
        clear hh4
        have hs1 := lt_of_get d1
        have hs2 := lt_of_get d2
        have hs3 := lt_of_get dg
        refine WP_rangeE (xss := movX es L) rfl hseq (fun i h' => Ext h3 h' ∧ i ≤ L.length ∧ h'[h3.size + 3]? = some (.deferred (some [])) ∧ h'[h3.size + 1]? = some (.cells #[.pointer (some ⟨g, 0, none⟩)] 96) ∧ h'[h3.size + 1 + 1]? = some (.cells #[.int .i64 who] 3) ∧ h3.size + 5 ≤ h'.size ∧ ∃ a' len cap, h'[h3.size]? = some (.cells #[.slice a' len cap] 40) ∧ len ≤ i ∧ OwnI (h3.size + 5) h' 3 a' len cap (zsN ((L.take i).filter (dayB es lo hi)))) (fun _ _ => False) ?_ ?_ ?_ ?_ ?_ ?_ ?_ ?_ ?_
        · intro vs hvs
          simp only [movX, List.mem_map] at hvs
          obtain ⟨_, _, rfl⟩ := hvs
          rfl
        · rintro i h' ⟨z0, z1, z2, z3, z4, z5, _⟩
          exact ⟨hr3.ext z0, z3, z4, z0.get dg⟩
        · rintro i h5 h6 ⟨z0, z1, z2, z3, z4, z5, a', len, cap, z6, z7, z8⟩ x
          exact ⟨z0.trans x, z1, x.get z2, x.get z3, x.get z4, Nat.le_trans z5 x.size, a', len, cap, x.get z6, z7, z8.ext x⟩
        · rintro i h5 h6 ⟨z0, z1, z2, z3, z4, z5, a', len, cap, z6, z7, z8⟩ u
          rw [s4] at u
          exact ⟨u.ext z0 (by omega), z1, u.get z2 (by omega), u.get z3 (by omega), u.get z4 (by omega), by rw [u.size]; exact z5, a', len, cap, u.get z6 (by omega), z7, z8.upd u (by omega)⟩
        · exact fun j h1 h2 H _ => H
        · intro h' x z1 z2
          rw [s4] at z1 z2
          exact ⟨x4.trans x, by omega, z1, x.get f1, x.get f2, by omega, none, 0, 0, x.get f0, by omega, OwnI.nil _ _ _⟩
        · rintro i h5 vs o hvs ⟨z0, z1, z2, z3, z4, z5, a', len, cap, z6, z7, z8⟩ ho
          rw [s4] at ho ⊢
          have hil : i < L.length := by
            have := (List.getElem?_eq_some_iff.1 hvs).1
            simpa [movX] using this
          have hj := hLm _ (List.getElem_mem hil)
          obtain ⟨j, hjd⟩ : ∃ j, j = L[i] := ⟨_, rfl⟩
          rw [← hjd] at hj
          have hvs2 : vs = [.int .i64 j, .agg #[.int .i64 es[j].d, .int .i64 es[j].f, .int .i64 es[j].t, .int .i64 es[j].a]] := by
            rw [movX, List.getElem?_map, List.getElem?_eq_getElem hil, ← hjd] at hvs
            simp [List.getD, List.getElem?_eq_getElem hj.2, enV] at hvs
            exact hvs.symm
          subst hvs2
          simp only [asgI_normal, stK_some, splice, coreS, Value.cells, Value.oneCell', Nat.reduceAdd, Nat.reduceSub, Nat.reduceMul, Nat.reduceLeDiff, Int.reduceEq, Nat.reduceEqDiff, scopeK_normal, scopeK_ret, scopeK_exit, callV_yield, binds_cons, binds_nil, agg24, agg26, agg3, agg40, by3, fo24_0, fo26_0, inf24, inf26, inf3, inf40, sz24, sz26, sz3, sz40, zero26, zero3, zero40, Tryz.underlying40]
          refine ⟨by rw [if_neg (by omega)]; exact ho, fun h6 o2 u6 ho2 => ?_⟩
          have q0 := u6.get (push_new (h := h5)) (by omega)
          have kx := u6.ext (z0.push _) (by omega)
          have k2 := u6.get (push_old z2) (by omega)
          have k3 := u6.get (push_old z3) (by omega)
          have k4 := u6.get (push_old z4) (by omega)
          have k5 : h3.size + 5 ≤ h6.size := by rw [u6.size, push_size]; omega
          have k6 := u6.get (push_old z6) (by omega)
          have k8 := (z8.ext ((Ext.refl h5).push _)).upd u6 (by omega)
          clear z2 z3 z4 z5 z6 z8 u6 ho z0
          simp only [kx.get d1, kx.get d2, q0, coreS, Value.cells, Value.oneCell', Nat.reduceAdd, Nat.reduceSub, Nat.reduceMul, Nat.reduceLeDiff, Int.reduceEq, Nat.reduceEqDiff, scopeK_normal, scopeK_ret, scopeK_exit, callV_yield, binds_cons, binds_nil, agg24, agg26, agg3, agg40, by3, fo24_0, fo26_0, inf24, inf26, inf3, inf40, sz24, sz26, sz3, sz40, zero26, zero3, zero40, Tryz.underlying40]
          refine CallsH.mono (within71 lo hi _ 1 1 [es[j].d] _ (intsV_one push_new) (by omega)) ?_
          rintro v h7 ⟨rfl, x7⟩
          replace x7 := x7.of_push
          have w2 := x7.get k2
          have w3 := x7.get k3
          have w4 := x7.get k4
          have w5 := Nat.le_trans k5 x7.size
          have w6 := x7.get k6
          have w8 := k8.ext x7
          have wx := kx.trans x7
          have wo := x7.get ho2
          clear k2 k3 k4 k5 k6 k8 kx ho2 q0
          have hfn := filt_next (p := dayB es lo hi) hil
          rw [← hjd] at hfn
          by_cases hw2 : lo ≤ es[j].d ∧ es[j].d ≤ hi
          · have hdb : dayB es lo hi j = true := by simp [dayB, List.getElem?_eq_getElem hj.2, hw2]
            rw [hdb, if_pos rfl] at hfn
            have el0 : ((len : Int) - ((0 : Nat) : Int)).toNat = len := by omega
            simp only [inB_one, hw2, and_self, decide_true, w6, splice, coreS, Value.cells, Value.oneCell', Nat.reduceAdd, Nat.reduceSub, Nat.reduceMul, Nat.reduceLeDiff, Int.reduceEq, Nat.reduceEqDiff, scopeK_normal, scopeK_ret, scopeK_exit, callV_yield, binds_cons, binds_nil, agg24, agg26, agg3, agg40, by3, fo24_0, fo26_0, inf24, inf26, inf3, inf40, sz24, sz26, sz3, sz40, zero26, zero3, zero40, Tryz.underlying40]
            simp only [eltP_zero, ite_self, el0]
            refine ⟨by omega, by omega, by omega, by have := w8.cap; omega, ?_⟩
            have O7 := (w8.cut).ext ((Ext.refl h7).push (.cells #[.int .i64 (j : Nat)] 3))
            refine app40 rfl rfl O7 (by simp; omega) (intsV_one push_new) (by have := hLm; omega) fun a8 c8 h8 O8 A => ?_
            have q2 := A.upd O7 (push_old w2) (by omega)
            have q3 := A.upd O7 (push_old w3) (by omega)
            have q4 := A.upd O7 (push_old w4) (by omega)
            have q6 := A.upd O7 (push_old w6) (by omega)
            have qo := A.upd O7 (push_old wo) (by omega)
            have qx := A.extN O7 (wx.push _) (by omega)
            have q5 : h3.size + 5 ≤ h8.size := Nat.le_trans (by rw [push_size]; omega) A.size
            clear A O7 w2 w3 w4 w6 wo wx
            simp only [q6, coreS, Value.cells, Value.oneCell', Nat.reduceAdd, Nat.reduceSub, Nat.reduceMul, Nat.reduceLeDiff, Int.reduceEq, Nat.reduceEqDiff, scopeK_normal, scopeK_ret, scopeK_exit, callV_yield, binds_cons, binds_nil, agg24, agg26, agg3, agg40, by3, fo24_0, fo26_0, inf24, inf26, inf3, inf40, sz24, sz26, sz3, sz40, zero26, zero3, zero40, Tryz.underlying40]
            refine stK_abs q6 (by simp) fun h9 g9 u9 => ?_
            simp only [splice] at g9
            simp only [splice, endI_normal, coreS, Value.cells, Value.oneCell', Nat.reduceAdd, Nat.reduceSub, Nat.reduceMul, Nat.reduceLeDiff, Int.reduceEq, Nat.reduceEqDiff, scopeK_normal, scopeK_ret, scopeK_exit, callV_yield, binds_cons, binds_nil, agg24, agg26, agg3, agg40, by3, fo24_0, fo26_0, inf24, inf26, inf3, inf40, sz24, sz26, sz3, sz40, zero26, zero3, zero40, Tryz.underlying40]
            refine ⟨u9.get qo (by omega), u9.ext qx (by omega), hil, u9.get q2 (by omega), u9.get q3 (by omega), u9.get q4 (by omega), by rw [u9.size]; exact q5, a8, _, c8, g9, by omega, ?_⟩
            have e5 : zsN ((L.take (i + 1)).filter (dayB es lo hi)) = zsN ((L.take i).filter (dayB es lo hi)) ++ [(j : Int)] := by rw [hfn]; simp [zsN]
            rw [e5]
            exact O8.upd u9 (by omega)
          · have hdb : dayB es lo hi j = false := by simp [dayB, List.getElem?_eq_getElem hj.2]; omega
            rw [hdb, if_neg (by decide), List.append_nil] at hfn
            simp only [inB_one, hw2, decide_false, endI_normal, coreS, Value.cells, Value.oneCell', Nat.reduceAdd, Nat.reduceSub, Nat.reduceMul, Nat.reduceLeDiff, Int.reduceEq, Nat.reduceEqDiff, scopeK_normal, scopeK_ret, scopeK_exit, callV_yield, binds_cons, binds_nil, agg24, agg26, agg3, agg40, by3, fo24_0, fo26_0, inf24, inf26, inf3, inf40, sz24, sz26, sz3, sz40, zero26, zero3, zero40, Tryz.underlying40]
            exact ⟨wo, wx, hil, w2, w3, w4, w5, a', len, cap, w6, by omega, by rw [hfn]; exact w8⟩
        · rintro h5 ⟨z0, z1, z2, z3, z4, z5, a', len, cap, z6, z7, z8⟩
          have e6 : (movX es L).length = L.length := by simp [movX]
          rw [e6, List.take_of_length_le (Nat.le_refl _)] at z8
          rw [e6] at z7
          rw [s4]
          simp only [z6, coreS, Value.cells, Value.oneCell', Nat.reduceAdd, Nat.reduceSub, Nat.reduceMul, Nat.reduceLeDiff, Int.reduceEq, Nat.reduceEqDiff, scopeK_normal, scopeK_ret, scopeK_exit, callV_yield, binds_cons, binds_nil, agg24, agg26, agg3, agg40, by3, fo24_0, fo26_0, inf24, inf26, inf3, inf40, sz24, sz26, sz3, sz40, zero26, zero3, zero40, Tryz.underlying40]
          refine fin_mark z2 ?_
          simp only [coreS, Value.cells, Value.oneCell', Nat.reduceAdd, Nat.reduceSub, Nat.reduceMul, Nat.reduceLeDiff, Int.reduceEq, Nat.reduceEqDiff, scopeK_normal, scopeK_ret, scopeK_exit, callV_yield, binds_cons, binds_nil, agg24, agg26, agg3, agg40, by3, fo24_0, fo26_0, inf24, inf26, inf3, inf40, sz24, sz26, sz3, sz40, zero26, zero3, zero40, Tryz.underlying40]
          refine ⟨⟨a', len, cap, by rw [hE], ?_, by omega⟩, y3.trans (Upd.set.ext z0 (by omega))⟩
          rw [movR, if_pos hE, movL, ← hn, ← hL]
          exact (z8.upd Upd.set (by omega)).ints
        · exact fun j h' H => H.elim
      · have hE : movE acc cl who lo hi es = 3 := by unfold movE; rw [if_neg (by simpa using e0), if_neg (by omega), if_pos (by omega)]
        simp only [inB_two, hd, decide_false, Bool.not_false, coreS, Value.cells, Value.oneCell', Nat.reduceAdd, Nat.reduceSub, Nat.reduceMul, Nat.reduceLeDiff, Int.reduceEq, Nat.reduceEqDiff, agg24, agg26, agg3, agg40, by3, fo24_0, fo26_0, inf24, inf26, inf3, inf40, sz24, sz26, sz3, sz40, zero26, zero3, zero40, Tryz.underlying40]
        exact ⟨⟨_, _, _, by rw [hE], by rw [movR, if_neg (by omega)]; exact IntsV.nil _, by omega⟩, y3⟩
    · have hE : movE acc cl who lo hi es = 2 := by unfold movE; rw [if_neg (by simpa using e0), if_pos (by omega)]
      simp only [inB_one, hw, decide_false, Bool.not_false, coreS, Value.cells, Value.oneCell', Nat.reduceAdd, Nat.reduceSub, Nat.reduceMul, Nat.reduceLeDiff, Int.reduceEq, Nat.reduceEqDiff, agg24, agg26, agg3, agg40, by3, fo24_0, fo26_0, inf24, inf26, inf3, inf40, sz24, sz26, sz3, sz40, zero26, zero3, zero40, Tryz.underlying40]
      exact ⟨⟨_, _, _, by rw [hE], by rw [movR, if_neg (by omega)]; exact IntsV.nil _, by omega⟩, y2⟩
  · have hE : movE acc cl who lo hi es = chk acc cl es := by unfold movE; rw [if_pos e0]
    simp only [e0, decide_false, Bool.not_false, coreS, Value.cells, Value.oneCell', Nat.reduceAdd, Nat.reduceSub, Nat.reduceMul, Nat.reduceLeDiff, Int.reduceEq, Nat.reduceEqDiff, agg24, agg26, agg3, agg40, by3, fo24_0, fo26_0, inf24, inf26, inf3, inf40, sz24, sz26, sz3, sz40, zero26, zero3, zero40, Tryz.underlying40]
    exact ⟨⟨_, _, _, by rw [hE], by rw [movR, if_neg (by omega)]; exact IntsV.nil _, by omega⟩, y1⟩
end Go.Proofs.YtepaekbjoombpaaGreatDoor
