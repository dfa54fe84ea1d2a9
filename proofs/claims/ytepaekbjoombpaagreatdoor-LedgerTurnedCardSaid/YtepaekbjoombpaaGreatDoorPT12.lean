/- Texts joined by pack.py: lemmas for YtepaekbjoombpaaGreatDoorTurned. No condition. -/
import Derived.Test.YtepaekbjoombpaaGreatDoorPT11
import Derived.ProofKit
import Derived.OpenShut
import Derived.Below
import Derived.WideKeyArgs
import Derived.ChangeSlices
set_option linter.unusedSimpArgs false
set_option linter.unusedVariables false
set_option linter.defProp false
section
namespace Go.Proofs.YtepaekbjoombpaaGreatDoor
open Go Go.Proofs Go.Run Go.Eng
set_option maxRecDepth 100000
@[reducible] noncomputable def M : Fm := ⟨depthOf Pt.ff18.nt, Pt.ff18.nt⟩
noncomputable def E1 : E := fromE M [(0, .bool false), (1, .ptr 5 0), (2, .slice 56 0 4 4), (3, .int .i64 0), (5, .int .i64 3), (6, .own 170 2), (7, .int .i64 0), (9, .int .i64 2), (10, .ptr 219 0), (11, .int .i64 0), (13, .int .i64 25), (15, .int .i64 16), (16, .ptr 475 0), (17, .int .i64 0), (19, .int .i64 16), (21, .int .i64 2), (22, .ptr 612 0), (23, .int .i64 0)] (.leaf .any)
noncomputable def S1 : S := ⟨fromV [(4, .row [.int .i64 1, .int .i64 0, .int .i64 1, .int .i64 5, .int .i64 3, .int .i64 1, .int .i64 2, .int .i64 3, .int .i64 3, .int .i64 2, .int .i64 0, .int .i64 1] 26 false), (5, .row [.int .i64 4, .int .i64 2, .slice 4 0 3 3] 24 false), (56, .row [.int .i64 (-4), .int .i64 2, .int .i64 2, .int .i64 0] 2 false), (170, .row [.int .i64 1, .int .i64 2] 3 true), (219, .row [.int .i64 4, .int .i64 2, .own 275 4] 24 false), (275, .row [.int .i64 1, .int .i64 0, .int .i64 1, .int .i64 5, .int .i64 3, .int .i64 1, .int .i64 2, .int .i64 3, .int .i64 3, .int .i64 2, .int .i64 0, .int .i64 1, .int .i64 3, .int .i64 3, .int .i64 0, .int .i64 4] 26 true), (474, .row [.int .i64 1, .int .i64 0, .int .i64 1, .int .i64 5, .int .i64 3, .int .i64 1, .int .i64 2, .int .i64 3, .int .i64 3, .int .i64 2, .int .i64 0, .int .i64 1, .int .i64 4, .int .i64 2, .int .i64 1, .int .i64 3] 26 true), (475, .row [.int .i64 4, .int .i64 2, .own 474 4] 24 false), (611, .row [.int .i64 1, .int .i64 0, .int .i64 1, .int .i64 5, .int .i64 3, .int .i64 1, .int .i64 2, .int .i64 3, .int .i64 3, .int .i64 2, .int .i64 0, .int .i64 1] 26 true), (612, .row [.int .i64 4, .int .i64 3, .own 611 3] 24 false)] (.leaf none), 613, 0⟩
theorem c0 : seg Pt.pr 1000000 M ((segs Pt.ff18.body).take 13) [0, 1, 2, 3, 5, 6, 7, 9, 10, 11, 13, 15, 16, 17, 19, 21, 22, 23] [4, 5, 56, 170, 219, 275, 474, 475, 611, 612] (.leaf undefT) [] s0 = some (E1, [], S1) := by kernel_rfl
noncomputable def E2 : E := fromE M [(0, .bool false), (1, .ptr 5 0), (2, .slice 56 0 4 4), (3, .int .i64 0), (5, .int .i64 3), (6, .own 170 2), (7, .int .i64 0), (9, .int .i64 2), (10, .ptr 219 0), (11, .int .i64 0), (13, .int .i64 25), (15, .int .i64 16), (16, .ptr 475 0), (17, .int .i64 0), (19, .int .i64 16), (21, .int .i64 2), (22, .ptr 612 0), (23, .int .i64 0), (25, .int .i64 25), (26, .int .i64 1), (27, .int .i64 0), (29, .int .i64 14), (30, .int .i64 2), (31, .int .i64 0), (32, .int .i64 2), (33, .int .i64 0)] (.leaf .any)
noncomputable def S2 : S := ⟨fromV [(4, .row [.int .i64 1, .int .i64 0, .int .i64 1, .int .i64 5, .int .i64 3, .int .i64 1, .int .i64 2, .int .i64 3, .int .i64 3, .int .i64 2, .int .i64 0, .int .i64 1] 26 false), (5, .row [.int .i64 4, .int .i64 2, .slice 4 0 3 3] 24 false), (56, .row [.int .i64 (-4), .int .i64 2, .int .i64 2, .int .i64 0] 2 false), (170, .row [.int .i64 1, .int .i64 2] 3 true), (219, .row [.int .i64 4, .int .i64 2, .own 275 4] 24 false), (275, .row [.int .i64 1, .int .i64 0, .int .i64 1, .int .i64 5, .int .i64 3, .int .i64 1, .int .i64 2, .int .i64 3, .int .i64 3, .int .i64 2, .int .i64 0, .int .i64 1, .int .i64 3, .int .i64 3, .int .i64 0, .int .i64 4] 26 true), (474, .row [.int .i64 1, .int .i64 0, .int .i64 1, .int .i64 5, .int .i64 3, .int .i64 1, .int .i64 2, .int .i64 3, .int .i64 3, .int .i64 2, .int .i64 0, .int .i64 1, .int .i64 4, .int .i64 2, .int .i64 1, .int .i64 3] 26 true), (475, .row [.int .i64 4, .int .i64 2, .own 474 4] 24 false), (611, .row [.int .i64 1, .int .i64 0, .int .i64 1, .int .i64 5, .int .i64 3, .int .i64 1, .int .i64 2, .int .i64 3, .int .i64 3, .int .i64 2, .int .i64 0, .int .i64 1] 26 true), (612, .row [.int .i64 4, .int .i64 3, .own 611 3] 24 false)] (.leaf none), 1025, 0⟩
theorem c1 : seg Pt.pr 1000000 M (((segs Pt.ff18.body).drop 13).take 5) [0, 1, 2, 3, 5, 6, 7, 9, 10, 11, 13, 15, 16, 17, 19, 21, 22, 23, 25, 26, 27, 29, 30, 31, 32, 33] [4, 5, 56, 170, 219, 275, 474, 475, 611, 612] E1 [] S1 = some (E2, [], S2) := by kernel_rfl
noncomputable def E3 : E := fromE M [(0, .bool false), (1, .ptr 5 0), (2, .slice 56 0 4 4), (3, .int .i64 0), (5, .int .i64 3), (6, .own 170 2), (7, .int .i64 0), (9, .int .i64 2), (10, .ptr 219 0), (11, .int .i64 0), (13, .int .i64 25), (15, .int .i64 16), (16, .ptr 475 0), (17, .int .i64 0), (19, .int .i64 16), (21, .int .i64 2), (22, .ptr 612 0), (23, .int .i64 0), (25, .int .i64 25), (26, .int .i64 1), (27, .int .i64 0), (29, .int .i64 14), (30, .int .i64 2), (31, .int .i64 0), (32, .int .i64 2), (33, .int .i64 0), (35, .int .i64 25), (36, .own 1241 2), (37, .int .i64 0), (38, .str [102]), (39, .int .i64 0), (40, .int .i64 0), (41, .int .i64 14), (42, .int .i64 8), (43, .str [52, 32, 50, 32, 101, 10, 49, 32, 48, 32, 49, 32, 53, 32, 102, 10, 51, 32, 49, 32, 50, 32, 51, 32, 98, 10, 51, 32, 50, 32, 48, 32, 49, 32, 103, 10, 51, 32, 57, 32, 108, 10]), (44, .int .i64 0)] (.leaf .any)
noncomputable def S3 : S := ⟨fromV [(4, .row [.int .i64 1, .int .i64 0, .int .i64 1, .int .i64 5, .int .i64 3, .int .i64 1, .int .i64 2, .int .i64 3, .int .i64 3, .int .i64 2, .int .i64 0, .int .i64 1] 26 false), (5, .row [.int .i64 4, .int .i64 2, .slice 4 0 3 3] 24 false), (56, .row [.int .i64 (-4), .int .i64 2, .int .i64 2, .int .i64 0] 2 false), (170, .row [.int .i64 1, .int .i64 2] 3 true), (219, .row [.int .i64 4, .int .i64 2, .own 275 4] 24 false), (275, .row [.int .i64 1, .int .i64 0, .int .i64 1, .int .i64 5, .int .i64 3, .int .i64 1, .int .i64 2, .int .i64 3, .int .i64 3, .int .i64 2, .int .i64 0, .int .i64 1, .int .i64 3, .int .i64 3, .int .i64 0, .int .i64 4] 26 true), (474, .row [.int .i64 1, .int .i64 0, .int .i64 1, .int .i64 5, .int .i64 3, .int .i64 1, .int .i64 2, .int .i64 3, .int .i64 3, .int .i64 2, .int .i64 0, .int .i64 1, .int .i64 4, .int .i64 2, .int .i64 1, .int .i64 3] 26 true), (475, .row [.int .i64 4, .int .i64 2, .own 474 4] 24 false), (611, .row [.int .i64 1, .int .i64 0, .int .i64 1, .int .i64 5, .int .i64 3, .int .i64 1, .int .i64 2, .int .i64 3, .int .i64 3, .int .i64 2, .int .i64 0, .int .i64 1] 26 true), (612, .row [.int .i64 4, .int .i64 3, .own 611 3] 24 false), (1241, .row [.int .i64 1, .int .i64 0, .int .i64 4, .int .i64 2, .int .i64 1, .int .i64 2] 139 true)] (.leaf none), 1385, 0⟩
theorem c2 : seg Pt.pr 1000000 M ((((segs Pt.ff18.body).drop 13).drop 5).take 5) [0, 1, 2, 3, 5, 6, 7, 9, 10, 11, 13, 15, 16, 17, 19, 21, 22, 23, 25, 26, 27, 29, 30, 31, 32, 33, 35, 36, 37, 38, 39, 40, 41, 42, 43, 44] [4, 5, 56, 170, 219, 275, 474, 475, 611, 612, 1241] E2 [] S2 = some (E3, [], S3) := by kernel_rfl
theorem c3 : lastB Pt.pr 1000000 M Pt.ff18.res ((((segs Pt.ff18.body).drop 13).drop 5).drop 5) E3 [] S3 = true := by kernel_rfl
theorem works18 (h : Eng.Heap) : CallsH Tryz.prog 18 #[] h (fun v h' => v = .bool true ∧ Ext h h') :=
  chain_calls Pt.ok Pt.lb (f := 18) (fi := Pt.ff18) (by kernel_rfl) (by decide +kernel) (.next 13 _ _ c0 (.next 5 _ _ c1 (.next 5 _ _ c2 (.last c3)))) h
end Go.Proofs.YtepaekbjoombpaaGreatDoor
end
section
namespace Go.Proofs.YtepaekbjoombpaaGreatDoor
open Go Go.Proofs Go.Eng Go.Run Tab
set_option maxRecDepth 100000
set_option linter.unusedSimpArgs false
set_option linter.unusedVariables false
set_option linter.defProp false
set_option maxHeartbeats 4000000
set_option linter.defProp false
def G8Fs13 := (And.intro (And.intro (And.intro (And.intro (And.intro @agg2 @agg22) (And.intro @agg24 @agg26)) (And.intro (And.intro @agg3 @by2) (And.intro @by26 @fo24_0))) (And.intro (And.intro (And.intro @fo24_1 @fo24_2) (And.intro @fo26_0 @fo26_1)) (And.intro (And.intro @fo26_2 @fo26_3) (And.intro @fps24_0 @fps24_1)))) (And.intro (And.intro (And.intro (And.intro @inf2 @inf22) (And.intro @inf24 @inf26)) (And.intro (And.intro @inf3 @okf24) (And.intro @sz2 @sz22))) (And.intro (And.intro (And.intro @sz24 @sz26) (And.intro @sz3 @zero24)) (And.intro (And.intro @zero26 @Tryz.underlying3) (And.intro @Tryz.underlying5 (And.intro @Tryz.underlying22 @Tryz.underlying37))))))
def G8Fs48 := (And.intro (And.intro (And.intro @agg26 @fps26_0) (And.intro @fps26_1 @fps26_2)) (And.intro (And.intro @fps26_3 @inf26) (And.intro @okf26 (And.intro @sz26 @zero26))))
theorem app22f {h : Eng.Heap} {er : Env} {ty : TypeId} {m0 : Nat} {x y : Operand} {a b : Option Addr} {len cap m c : Nat} {xs ys : List En} {K : Value → Eng.Heap → Prop} (hx : ev er x = .slice a len cap) (hy : ev er y = .slice b m c) (O : OwnV m0 h 26 4 a len cap (ensV xs)) (h0h : m0 ≤ h.size) (I : Row h b (ensV ys)) (hm : ys.length = m) (hb : len + m ≤ 1000)
    (H : ∀ a' cap' h', OwnV m0 h' 26 4 a' (len + m) cap' (ensV (xs ++ ys)) → App h h' a a' → K (.slice a' (len + m) cap') h') : opSem Tryz.prog (.call ⟨.builtin .append, #[x, y], #[22, 22]⟩) ty er h K :=
  append_valsT Tryz.underlying22 Tryz.underlying22 inf26 sz26 zero26 (by rfl) hx hy O h0h I (by rw [ensV_length, hm]) (fun u hu => by
    simp only [ensV, List.mem_flatMap, enV] at hu
    obtain ⟨e, _, hu⟩ := hu
    simp at hu
    rcases hu with rfl | rfl | rfl | rfl <;> rfl) (by omega) (by rw [by26]; omega) (fun a' cap' h' O' A => H a' cap' h' (by rw [ensV_append]; exact O') A)
theorem entry48 (e : En) (h : Eng.Heap) : CallsH Tryz.prog 48 #[.int .i64 e.d, .int .i64 e.f, .int .i64 e.t, .int .i64 e.a] h (fun v h' => v = .agg #[.int .i64 e.d, .int .i64 e.f, .int .i64 e.t, .int .i64 e.a] ∧ Ext h h') := by
  (refine CallsH_of_exec Tryz.func48 rfl bod48 ?_; simp only [Tryz.ntmps48, Tryz.results48, coreS, stK_some, splice, Value.cells, Value.oneCell', Nat.reduceAdd, Nat.reduceSub, Nat.reduceMul, Nat.reduceLeDiff, Int.reduceEq, Nat.reduceEqDiff, G8Fs48])
  exact (Ext.refl h).push _
theorem chk_shf {k s : Nat} {cl : Int} {es : List En} (hk : 0 < k) (hc : chk k cl es = 0) : chk k cl (es.map (shf k s)) = 0 := by
  obtain ⟨h1, h2, h3, h4, h5, h6⟩ := chk_ok hc
  unfold chk
  rw [if_neg, if_neg, if_neg]
  · rintro (hh | ⟨e, he, hh⟩)
    · refine hh fun i hi => ?_
      rw [List.getElem_map, List.getElem_map]
      exact h5 i (by simpa using hi)
    · obtain ⟨e0, he0, rfl⟩ := List.mem_map.1 he
      exact shf_ne hk (h4 e0 he0) (h6 e0 he0) hh
  · rintro (hh | hh)
    · exact hh h3
    · refine hh fun e he => ?_
      obtain ⟨e0, he0, rfl⟩ := List.mem_map.1 he
      exact shf_ok hk (h4 e0 he0)
  · rw [List.length_map]
    rintro (hh | hh)
    · exact hh h1
    · omega
theorem opn_day {acc cl : Int} {es : List En} {day : Int} (hc : chk acc cl es = 0) (hd : 0 ≤ day ∧ day ≤ 30) : opn acc cl es [day] = 0 := by
  rw [opn, if_neg (by simpa using hc), if_pos (by rw [inB_one]; simpa using hd)]
theorem turned_most {es fs : List En} {day : Int} {k s j1 j2 : Nat} (hk : k ≤ 8) (hs : s < k) (hok : ∀ e ∈ es, okE k e) (hokf : ∀ e ∈ fs, okE k e) (hv : ∀ i, i < k → balA fs day ((i + s) % k : Nat) = balA es day (i : Int))
    (h1 : LS.Most (LS.zero (l8 es day) 8) (LS.msk (LS.opn (l8 es day)) 8) j1) (h2 : LS.Most (LS.zero (l8 fs day) 8) (LS.msk (LS.opn (l8 fs day)) 8) j2) : j1 = j2 ∧ LS.opens (l8 es day) 8 = LS.opens (l8 fs day) 8 := by
  obtain ⟨a1, a2, a3⟩ := cut8 hk (l8_far (day := day) hok)
  obtain ⟨b1, b2, b3⟩ := cut8 hk (l8_far (day := day) hokf)
  rw [a1, a2] at h1
  rw [b1, b2] at h2
  have := turned_law (s := s) hs (fun i hi => ?_) h1 h2
  · rw [a3, b3]; exact this
  · have hm : (i + s) % k < k := Nat.mod_lt _ (by omega)
    unfold l8
    rw [bals_get fs day (by omega), bals_get es day (by omega), hv i hi]
theorem turned13 (acc cl : Int) (a : Option Addr) (n c : Nat) (es : List En) (more number : Int) (h : Eng.Heap) (hr : Row h a (ensV es)) (hn : n = es.length) (hmore : 0 ≤ more ∧ more ≤ 255) (hnum : 0 ≤ number ∧ number ≤ 255) :
    CallsH Tryz.prog 13 #[.agg #[.int .i64 acc, .int .i64 cl, .slice a n c], .int .u8 more, .int .u8 number] h (fun v h' => v = .bool true ∧ Ext h h') := by
  (refine CallsH_of_exec Tryz.func13 rfl bod13 ?_; simp only [Tryz.ntmps13, Tryz.results13, coreS, stK_some, splice, Value.cells, Value.oneCell', Nat.reduceAdd, Nat.reduceSub, Nat.reduceMul, Nat.reduceLeDiff, Int.reduceEq, Nat.reduceEqDiff, G8Fs13])
  have q0 := push_new (h := h) (o := .cells #[.int .i64 acc, .int .i64 cl, .slice a n c] 24)
  refine CallsH.mono (fine42 acc cl a n c es _ (hr.push _) hn) ?_
  rintro v h1 ⟨rfl, x1⟩
  have hb1 := x1.get q0
  have y1 := x1.of_push
  by_cases hc : chk acc cl es = 0
  case neg =>
    simp only [hc, decide_false, Bool.not_false, coreS, Value.cells, Value.oneCell', Nat.reduceAdd, Nat.reduceSub, Nat.reduceMul, Nat.reduceLeDiff, Int.reduceEq, Nat.reduceEqDiff, G8Fs13]
    refine CallsH.mono (works18 h1) ?_
    rintro v h8 ⟨rfl, x8⟩
    simp only [coreS, Value.cells, Value.oneCell', Nat.reduceAdd, Nat.reduceSub, Nat.reduceMul, Nat.reduceLeDiff, Int.reduceEq, Nat.reduceEqDiff, G8Fs13]
    exact y1.trans x8
  obtain ⟨hac, hl20, hcl, hok, hso, hft⟩ := chk_ok hc
  have hl : n ≤ 1000000 := by omega
  obtain ⟨k, rfl⟩ : ∃ k : Nat, acc = k := ⟨acc.toNat, by omega⟩
  simp only [hc, hb1, decide_true, Bool.not_true, coreS, Value.cells, Value.oneCell', Nat.reduceAdd, Nat.reduceSub, Nat.reduceMul, Nat.reduceLeDiff, Int.reduceEq, Nat.reduceEqDiff, G8Fs13]
  refine WP_draw (by kernel_rfl) sta_eq [(0, 0), (1, 0), (2, 0), (3, 0), (4, 0), (5, 0), (6, 0), (7, 0), (8, 0), (9, 0), (10, 0), (11, 0)] (by kernel_rfl) rfl (by kernel_rfl) ?_
  simp only [hb1, hvK_eq, coreS, Value.cells, Value.oneCell', Nat.reduceAdd, Nat.reduceSub, Nat.reduceMul, Nat.reduceLeDiff, Int.reduceEq, Nat.reduceEqDiff, drawS, G8Fs13]
  refine ⟨by rw [inK_i64]; omega, by omega, ?_⟩
  refine cQ_sameG _ (day43 number h1 hnum) ?_
  obtain ⟨day, hday⟩ : ∃ d, d = number.tmod 31 := ⟨_, rfl⟩
  have hd30 : 0 ≤ day ∧ day ≤ 30 := by subst hday; rw [Int.tmod_eq_emod_of_nonneg hnum.1]; omega
  obtain ⟨s, hs, hsk⟩ : ∃ s : Nat, more.tmod k = s ∧ s < k := by
    refine ⟨(more.tmod k).toNat, ?_, ?_⟩
    · rw [Int.tmod_eq_emod_of_nonneg hmore.1]
      have := Int.emod_nonneg more (b := (k : Int)) (by omega)
      omega
    · rw [Int.tmod_eq_emod_of_nonneg hmore.1]
      have := Int.emod_nonneg more (b := (k : Int)) (by omega)
      have := Int.emod_lt_of_pos more (b := (k : Int)) (by omega)
      omega
  rw [← hday, hs]
  simp only [hb1, hvK_eq, coreS, Value.cells, Value.oneCell', Nat.reduceAdd, Nat.reduceSub, Nat.reduceMul, Nat.reduceLeDiff, Int.reduceEq, Nat.reduceEqDiff, drawS, G8Fs13]
  simp only [splice, List.take, List.drop, List.nil_append, List.cons_append, List.append_nil, List.length_cons, List.length_nil, Nat.zero_add, Nat.reduceAdd, Nat.reduceLeDiff, if_true, coreS, Value.cells, Value.oneCell', Nat.reduceAdd, Nat.reduceSub, Nat.reduceMul, Nat.reduceLeDiff, Int.reduceEq, Nat.reduceEqDiff, G8Fs13]
  refine stK_abs push_new (by simp) fun h2 g2 u2 => ?_
  simp only [splice, List.take, List.drop, List.nil_append, List.append_nil, List.length_cons, List.length_nil] at g2
  have xb : Ext h1 h2 := u2.ext ((Ext.refl h1).push _) (Nat.le_refl _)
  simp only [coreS, Value.cells, Value.oneCell', Nat.reduceAdd, Nat.reduceSub, Nat.reduceMul, Nat.reduceLeDiff, Int.reduceEq, Nat.reduceEqDiff, G8Fs13]
  refine WP_loopI [11, 12, 39, 40, 41, 42, 43, 44, 45, 46, 47, 48, 49, 50, 51, 52, 53, 54, 55, 56, 57, 58, 59, 60, 61, 62, 63, 64, 65, 66, 67, 68, 69, 70, 71, 72] (fun e h' => Ext h1 h' ∧ ∃ i : Nat, i ≤ n ∧ e 11 = .int .i64 i ∧ ∃ aX cX, h'[h1.size]? = some (.cells #[.int .i64 k, .int .i64 cl, .slice aX i cX] 24) ∧ OwnV (h1.size + 1) h' 26 4 aX i cX (ensV ((es.take i).map (shf k s)))) (fun e _ => match e 11 with | .int _ q => n - q.toNat | _ => 0) ⟨xb, 0, by omega, rfl, none, 0, g2, OwnV.nil _ _ _ _⟩ ?_
  rintro e3 h3 ⟨x3, i, hi, he3, aX, cX, hX, OX⟩
  have hb3 := x3.get hb1
  by_cases hin : i < n
  case neg =>
    obtain rfl : n = i := by omega
    simp only [he3, hb3, show ¬ ((n : Int) < (n : Int)) by omega, decide_false, coreS, Value.cells, Value.oneCell', Nat.reduceAdd, Nat.reduceSub, Nat.reduceMul, Nat.reduceLeDiff, Int.reduceEq, Nat.reduceEqDiff, G8Fs13]
    have ht : es.take n = es := List.take_of_length_le (by omega)
    rw [ht] at OX
    obtain ⟨fs, hfs⟩ : ∃ fs, fs = es.map (shf k s) := ⟨_, rfl⟩
    have hcx : chk k cl fs = 0 := by rw [hfs]; exact chk_shf (by omega) hc
    have hlf : n = fs.length := by rw [hfs, List.length_map]; exact hn
    have rX := OX.row
    rw [← hfs] at rX
    have o1 := opn_day hc hd30
    have o2 := opn_day hcx hd30
    have r3 := (hr.ext y1).ext x3
    refine CallsH.mono (balances45 k cl a n c es day h3 r3 hn hl) ?_
    rintro v h4 ⟨⟨b4, m4, c4, rfl, I4, hm4⟩, x4⟩
    have hX4 := x4.get hX
    simp only [hX4, o1, decide_true, coreS, Value.cells, Value.oneCell', Nat.reduceAdd, Nat.reduceSub, Nat.reduceMul, Nat.reduceLeDiff, Int.reduceEq, Nat.reduceEqDiff, G8Fs13]
    refine CallsH.mono (balances45 k cl aX n cX fs day h4 (rX.ext x4) hlf hl) ?_
    rintro v h5 ⟨⟨b5, m5, c5, rfl, I5, hm5⟩, x5⟩
    have hb5 := x5.get (x4.get hb3)
    have hX5 := x5.get hX4
    simp only [hb5, o2, decide_true, coreS, Value.cells, Value.oneCell', Nat.reduceAdd, Nat.reduceSub, Nat.reduceMul, Nat.reduceLeDiff, Int.reduceEq, Nat.reduceEqDiff, G8Fs13]
    refine CallsH.mono (fewest49 k cl a n c es day h5 ((r3.ext x4).ext x5) hn hl) ?_
    rintro v h6 ⟨H6, x6⟩
    rcases H6 with ⟨_, j1, hj1, hj8, rfl⟩ | ⟨h0, _⟩
    case inr => exact absurd o1 h0
    have hX6 := x6.get hX5
    simp only [hX6, coreS, Value.cells, Value.oneCell', Nat.reduceAdd, Nat.reduceSub, Nat.reduceMul, Nat.reduceLeDiff, Int.reduceEq, Nat.reduceEqDiff, G8Fs13]
    refine CallsH.mono (fewest49 k cl aX n cX fs day h6 (((rX.ext x4).ext x5).ext x6) hlf hl) ?_
    rintro v h7 ⟨H7, x7⟩
    rcases H7 with ⟨_, j2, hj2, hj28, rfl⟩ | ⟨h0, _⟩
    case inr => exact absurd o2 h0
    have hv : ∀ i, i < k → balA fs day ((i + s) % k : Nat) = balA es day (i : Int) := fun i hi => by
      have := bl_shf (s := s) (day := day) (by omega) hok hi
      rw [← hfs] at this
      exact this
    obtain ⟨q1, q2⟩ := turned_most (by omega) (by omega) hok (fun e he => (chk_ok hcx).2.2.2.1 e he) hv hj1 hj2
    rw [← q1, ← q2]
    simp only [coreS, Value.cells, Value.oneCell', Nat.reduceAdd, Nat.reduceSub, Nat.reduceMul, Nat.reduceLeDiff, Int.reduceEq, Nat.reduceEqDiff, G8Fs13]
    rw [balsR, if_pos o1, Int.toNat_natCast] at I4
    rw [balsR, if_pos o2, Int.toNat_natCast] at I5
    have hl4 := I4.len
    have hl5 := I5.len
    rw [bals_length] at hl4 hl5
    have I4' := ((I4.ext x5).ext x6).ext x7
    have I5' := (I5.ext x6).ext x7
    refine WP_loopI [6, 21, 116, 117, 118, 119, 120, 121, 122, 123, 124, 125, 126, 127, 128, 129, 130, 131, 132, 133] (fun e h' => h' = h7 ∧ ∃ i : Nat, i ≤ k ∧ e 21 = .int .i64 i) (fun e _ => match e 21 with | .int _ q => k - q.toNat | _ => 0) ⟨rfl, 0, by omega, rfl⟩ ?_
    rintro e8 h8 ⟨rfl, i, hi, he8⟩
    by_cases hik : i < k
    case neg =>
      obtain rfl : k = i := by omega
      simp only [he8, show ¬ ((k : Int) < (k : Int)) by omega, decide_false, coreS, Value.cells, Value.oneCell', Nat.reduceAdd, Nat.reduceSub, Nat.reduceMul, Nat.reduceLeDiff, Int.reduceEq, Nat.reduceEqDiff, G8Fs13]
      refine CallsH.mono (works18 _) ?_
      rintro v h9 ⟨rfl, x9⟩
      simp only [coreS, Value.cells, Value.oneCell', Nat.reduceAdd, Nat.reduceSub, Nat.reduceMul, Nat.reduceLeDiff, Int.reduceEq, Nat.reduceEqDiff, G8Fs13]
      exact (((((y1.trans x3).trans x4).trans x5).trans x6).trans x7).trans x9
    have hlti : (i : Int) < (k : Int) := by omega
    have measi : k - ((i : Int) + 1).toNat < k - (i : Int).toNat := by omega
    have hm : (i + s) % k < k := Nat.mod_lt _ (by omega)
    have ci := I4'.cell (j := i) (by rw [bals_length]; omega)
    have cj := I5'.cell (j := (i + s) % k) (by rw [bals_length]; omega)
    have si := I4'.isSome (by rw [bals_length]; omega)
    have sj := I5'.isSome (by rw [bals_length]; omega)
    rw [bals_get es day hik] at ci
    rw [bals_get fs day hm, hv i hik] at cj
    have emod : ((i : Int) + (s : Int)).tmod (k : Int) = (((i + s) % k : Nat) : Int) := by
      rw [Int.tmod_eq_emod_of_nonneg (by omega)]; push_cast; rfl
    simp only [he8, hlti, decide_true, coreS, Value.cells, Value.oneCell', Nat.reduceAdd, Nat.reduceSub, Nat.reduceMul, Nat.reduceLeDiff, Int.reduceEq, Nat.reduceEqDiff, G8Fs13]
    refine WP_draw (by kernel_rfl) sta_eq [(0, 0), (1, 0), (2, 0), (3, 0), (4, 0), (5, 0), (6, 0), (7, 0), (8, 0), (9, 0), (10, 0), (11, 0), (12, 0)] (by kernel_rfl) rfl (by kernel_rfl) ?_
    simp only [he8, ci, cj, emod, Int.toNat_natCast, hvK_eq, coreS, Value.cells, Value.oneCell', Nat.reduceAdd, Nat.reduceSub, Nat.reduceMul, Nat.reduceLeDiff, Int.reduceEq, Nat.reduceEqDiff, drawS, G8Fs13]
    exact ⟨by omega, si, by rw [inK_i64]; omega, by omega, by omega, sj, by rw [inK_i64]; omega, roundK_mk (by kernel_rfl) ⟨rfl, i + 1, by omega, rfl⟩ measi⟩
  have hlt : (i : Int) < (n : Int) := by omega
  have meas : n - ((i : Int) + 1).toNat < n - (i : Int).toNat := by omega
  have hie : i < es.length := by omega
  obtain ⟨en, hen⟩ : ∃ en, en = es[i] := ⟨_, rfl⟩
  have hce := rowE ((hr.ext y1).ext x3) hie
  rw [← hen] at hce
  have sa : a.isSome = true := by
    rcases hr with h0 | ⟨g, off, cur, ct, fr, h0, _⟩
    · have h2 : (ensV es).length = 0 := by rw [h0]; rfl
      rw [ensV_length] at h2
      omega
    · rw [h0]; rfl
  have hoe := hok en (by rw [hen]; exact List.getElem_mem hie)
  simp only [he3, hb3, hlt, hce, decide_true, Int.toNat_natCast, coreS, Value.cells, Value.oneCell', Nat.reduceAdd, Nat.reduceSub, Nat.reduceMul, Nat.reduceLeDiff, Int.reduceEq, Nat.reduceEqDiff, G8Fs13]
  refine ⟨by omega, sa, ?_⟩
  refine stK_abs push_new (by simp) fun h4 g4 u4 => ?_
  simp only [splice, List.take, List.drop, List.nil_append, List.append_nil, List.length_cons, List.length_nil] at g4
  have x4 : Ext h3 h4 := u4.ext ((Ext.refl h3).push _) (Nat.le_refl _)
  have hX4 := x4.get hX
  have OX4 := OX.ext x4
  simp only [coreS, Value.cells, Value.oneCell', Nat.reduceAdd, Nat.reduceSub, Nat.reduceMul, Nat.reduceLeDiff, Int.reduceEq, Nat.reduceEqDiff, G8Fs13]
  refine WP_tree (by kernel_rfl) sta_ext (.quiet 0 (.quiet 1 (.quiet 2 (.quiet 3 (.quiet 4 (.quiet 5 (.quiet 6 (.quiet 7 (.quiet 8 (.quiet 9 (.quiet 10 (.quiet 11 (.quiet 12 (.quiet 13 (.quiet 14 (.quiet 15 (.quiet 16 (.quiet 17 (.keep 18 (.keep 19 (.one 20 (.quiet 21 (.one 22 (.fin)))))))))))))))))))))))) (by kernel_rfl) rfl (by kernel_rfl) ?_
  simp only [g4, hX4, coreS, Value.cells, Value.oneCell', Nat.reduceAdd, Nat.reduceSub, Nat.reduceMul, Nat.reduceLeDiff, Int.reduceEq, Nat.reduceEqDiff, drawS, treeS, G8Fs13]
  have b2 := hoe.2.1
  have b3 := hoe.2.2.1
  refine ⟨by rw [inK_i64]; omega, by omega, by rw [inK_i64]; omega, by omega, ?_⟩
  refine execT_keep fun h5 x5 => ?_
  simp only [coreS, Value.cells, Value.oneCell', Nat.reduceAdd, Nat.reduceSub, Nat.reduceMul, Nat.reduceLeDiff, Int.reduceEq, Nat.reduceEqDiff, drawS, treeS, G8Fs13]
  refine CallsH.mono (entry48 (shf k s en) h5) ?_
  rintro v h6 ⟨rfl, x6⟩
  refine ⟨x6, ?_⟩
  try simp only [coreS, Value.cells, Value.oneCell', Nat.reduceAdd, Nat.reduceSub, Nat.reduceMul, Nat.reduceLeDiff, Int.reduceEq, Nat.reduceEqDiff, drawS, treeS, G8Fs13]
  refine execT_keep fun h7 x7 => ?_
  simp only [splice, List.take, List.drop, List.nil_append, List.append_nil, List.length_cons, List.length_nil, coreS, Value.cells, Value.oneCell', Nat.reduceAdd, Nat.reduceSub, Nat.reduceMul, Nat.reduceLeDiff, Int.reduceEq, Nat.reduceEqDiff, drawS, treeS, G8Fs13]
  refine ⟨by decide, (Ext.refl h7).push _, ?_⟩
  refine execT_one fun h8 x8 => ?_
  have x48 : Ext h4 h8 := ((x5.trans x6).trans x7).trans x8.of_push
  have OX8 := OX4.ext x48
  have hX8 := x48.get hX4
  have q8 := x8.get push_new
  simp only [coreS, Value.cells, Value.oneCell', Nat.reduceAdd, Nat.reduceSub, Nat.reduceMul, Nat.reduceLeDiff, Int.reduceEq, Nat.reduceEqDiff, drawS, treeS, G8Fs13]
  refine app22f (m0 := h1.size + 1) (len := i) (m := 1) (xs := (es.take i).map (shf k s)) (ys := [shf k s en]) rfl rfl OX8 (by have := lt_of_get hX8; omega) (Row.block (c := ensV [shf k s en]) q8) rfl (by omega) fun a' cap' h9 O9 A9 => ?_
  try simp only [coreS, Value.cells, Value.oneCell', Nat.reduceAdd, Nat.reduceSub, Nat.reduceMul, Nat.reduceLeDiff, Int.reduceEq, Nat.reduceEqDiff, drawS, treeS, G8Fs13]
  refine execT_one fun h10 x10 => ?_
  have hX10 := x10.get (A9.updV OX8 hX8 (by omega))
  simp only [hX10, coreS, Value.cells, Value.oneCell', Nat.reduceAdd, Nat.reduceSub, Nat.reduceMul, Nat.reduceLeDiff, Int.reduceEq, Nat.reduceEqDiff, drawS, treeS, G8Fs13]
  refine stK_abs hX10 (by simp) fun h11 g11 u11 => ?_
  simp only [splice, List.take, List.drop, List.nil_append, List.cons_append, List.append_nil, List.length_cons, List.length_nil] at g11
  refine execT_fin fun h12 x12 => ?_
  simp only [he3, coreS, Value.cells, Value.oneCell', Nat.reduceAdd, Nat.reduceSub, Nat.reduceMul, Nat.reduceLeDiff, Int.reduceEq, Nat.reduceEqDiff, G8Fs13]
  have O12 := ((O9.ext x10).upd u11 (by omega)).ext x12
  have et : (es.take (i + 1)).map (shf k s) = (es.take i).map (shf k s) ++ [shf k s en] := by
    rw [List.take_add_one, List.getElem?_eq_getElem hie, ← hen, List.map_append]
    rfl
  have xF : Ext h1 h12 := (u11.ext ((A9.extV OX8 ((x3.trans x4).trans x48) (by omega)).trans x10) (Nat.le_refl _)).trans x12
  exact ⟨by rw [inK_i64]; omega, roundK_mk (by kernel_rfl) ⟨xF, i + 1, by omega, rfl, a', cap', x12.get g11, by rw [et]; exact O12⟩ meas⟩
end Go.Proofs.YtepaekbjoombpaaGreatDoor
end
section
set_option linter.unusedVariables false
set_option linter.unusedSimpArgs false
namespace Go.Eng
open Go Go.ChangeShapes Go.WideShapes Go.ChangeAt Go.RowKit
section rowkit
variable {P : Program} {H : Type} {enc : TypeId × Value → H}
theorem same_of {W W' : World} (x : Ext W.heap W'.heap) {p : MemPlace} (hp : p.block < W.heap.size) : W.sameAt W' p := by
  have h := x.old p.block hp
  cases p with
  | cell b o => exact World.cell?_of_block (w := W) h
  | map b => exact h
theorem trodAll_ext (hl : laidOutB P = true) {W W' : World} (x : Ext W.heap W'.heap) {sp : Nat → Bool} : ∀ {ts : List TypeId} {vs : List Value} {ds : List (DataW H)} {ps : List MemPlace},
    (ts.all fun t => P.readableRec t && decide (t < P.types.size)) = true → DataW.TrodAll enc P W 0 (fun _ => true) true ts vs ds ps → (∀ p ∈ ps, p.block < W.heap.size) → (∀ p ∈ ps, sp p.block = true) → DataW.TrodAll enc P W' 0 sp true ts vs ds ps
  | [], [], [], ps, _, h, _, _ => h
  | t :: ts, v :: vs, d :: ds, ps, ht, ⟨p, q, h1, h2, he⟩, hb, hs => by
    subst he
    simp only [List.all_cons, Bool.and_eq_true, decide_eq_true_eq] at ht
    exact ⟨p, q, WideElems.Trod_stays hl ht.1.1 ht.1.2 h1 (fun y hy => same_of x (hb y (by simp [hy]))) (fun y hy => hs y (by simp [hy])),
      trodAll_ext hl x (by simpa using ht.2) h2 (fun y hy => hb y (by simp [hy])) (fun y hy => hs y (by simp [hy])), rfl⟩
theorem calls_ext {f : FuncId} {args : Array Value} {W : World} {b : Bool} (hc : CallsH P f args W.heap (fun v h' => v = .bool b ∧ Ext W.heap h')) : Calls P f args W fun e W' => e = .returned (.bool b) ∧ Ext W.heap W'.heap ∧ Rest W W' := by
  unfold CallsH CallsW at hc
  refine Calls.mono (hc.2 W rfl) ?_
  rintro e W' ⟨v, rfl, ⟨rfl, x⟩, r⟩
  exact ⟨rfl, x, r⟩
end rowkit
end Go.Eng
end
section
namespace Go.Proofs.YtepaekbjoombpaaGreatDoor
open Go Go.Proofs Go.Eng Tab Go.ChangeShapes Go.WideShapes Go.ChangeAt Go.RowKit
set_option maxRecDepth 100000
set_option linter.unusedSimpArgs false
set_option linter.unusedVariables false
theorem row_of {W : World} {a : Addr} {vs : List Value} (hc : ∀ i (hi : i < vs.length), W.cell? (a.add i) = some vs[i]) : Row W.heap (some a) vs := by
  by_cases hn : vs.length = 0
  · left; exact List.eq_nil_of_length_eq_zero hn
  right
  have key : ∀ i u, W.cell? (a.add i) = some u → (i = 0 → a.spot = none) ∧ ∃ cur ct fr, W.heap[a.block]? = some (.cells cur ct fr) ∧ cur[a.off + i]? = some u := by
    intro i u hu
    unfold World.cell? Addr.add at hu
    by_cases hi : i = 0
    · subst hi
      simp only [if_true] at hu
      split at hu <;> simp_all
    · simp only [hi, if_false] at hu
      split at hu <;> simp_all
  obtain ⟨hsp, cur, ct, fr, hb, _⟩ := key 0 _ (hc 0 (by omega))
  have hcur : ∀ i (hi : i < vs.length), cur[a.off + i]? = some vs[i] := fun i hi => by
    obtain ⟨_, cur2, ct2, fr2, hb2, hc2⟩ := key i _ (hc i hi)
    rw [hb] at hb2
    cases hb2
    exact hc2
  have hsz : a.off + vs.length ≤ cur.size := by
    have := hcur (vs.length - 1) (by omega)
    have := (Array.getElem?_eq_some_iff.1 this).1
    omega
  obtain ⟨b, off, spot⟩ := a
  replace hsp := hsp rfl
  simp only at hsp hb hcur hsz
  subst hsp
  refine ⟨b, off, cur, ct, fr, rfl, hb, hsz, ?_⟩
  apply List.ext_getElem?
  intro i
  rw [List.getElem?_take, List.getElem?_drop]
  by_cases hi : i < vs.length
  · rw [if_pos hi, Array.getElem?_toList, hcur i hi, List.getElem?_eq_getElem hi]
  · rw [if_neg hi, List.getElem?_eq_none (by omega)]
theorem list_choose {α : Type} {p : Nat → α → Prop} : ∀ n, (∀ i < n, ∃ x, p i x) → ∃ l : List α, l.length = n ∧ ∀ i (hi : i < l.length), p i l[i]
  | 0, _ => ⟨[], rfl, fun i hi => by simp at hi⟩
  | n + 1, H => by
    obtain ⟨l, hl, h⟩ := list_choose n fun i hi => H i (by omega)
    obtain ⟨x, hx⟩ := H n (by omega)
    refine ⟨l ++ [x], by simp [hl], fun i hi => ?_⟩
    by_cases hin : i < l.length
    · rw [List.getElem_append_left hin]; exact h i hin
    · have : i = l.length := by simp at hi; omega
      subst this
      rw [List.getElem_append_right (Nat.le_refl _)]
      simpa [hl] using hx
section opens
variable {H : Type} {enc : TypeId × Value → H} {W : World} {base b0 : Nat} {r : Reach} {sp : Nat → Bool} {held : Bool} {v : Value} {d : DataW H} {ps : List MemPlace}
theorem cel3 : Tryz.prog.cellsOf 3 = 1 := by kernel_rfl
theorem cel2 : Tryz.prog.cellsOf 2 = 1 := by kernel_rfl
theorem cel22 : Tryz.prog.cellsOf 22 = 1 := by kernel_rfl
theorem cel24 : Tryz.prog.cellsOf 24 = 3 := by kernel_rfl
theorem cel26 : Tryz.prog.cellsOf 26 = 4 := by kernel_rfl
def okEn (e : En) : Prop := (Lit.int .i64 e.d).wf = true ∧ (Lit.int .i64 e.f).wf = true ∧ (Lit.int .i64 e.t).wf = true ∧ (Lit.int .i64 e.a).wf = true
theorem trod_en {fuel : Nat} {cs : List Value} {x : DataW H × List MemPlace} (h : DataW.trod enc Tryz.prog W base sp held fuel 26 cs = some x) : ∃ e : En, cs = enV e ∧ okEn e := by
  obtain ⟨xs, n, rfl, rfl, hl, hxl, hf⟩ := DataW.trod_struct Tryz.underlying26 h
  rw [cel26] at hl
  obtain ⟨c0, c1, c2, c3, rfl⟩ : ∃ c0 c1 c2 c3, cs = [c0, c1, c2, c3] := by
    match cs, hl with
    | [c0, c1, c2, c3], _ => exact ⟨_, _, _, _, rfl⟩
  obtain ⟨y0, y1, y2, y3, rfl⟩ : ∃ y0 y1 y2 y3, xs = [y0, y1, y2, y3] := by
    match xs, hxl with
    | [y0, y1, y2, y3], _ => exact ⟨_, _, _, _, rfl⟩
  have f0 : DataW.trod enc Tryz.prog W base sp held n 3 (([c0, c1, c2, c3].drop 0).take (Tryz.prog.cellsOf 3)) = some y0 := hf 0 _ rfl
  have f1 : DataW.trod enc Tryz.prog W base sp held n 3 (([c0, c1, c2, c3].drop 1).take (Tryz.prog.cellsOf 3)) = some y1 := hf 1 _ rfl
  have f2 : DataW.trod enc Tryz.prog W base sp held n 3 (([c0, c1, c2, c3].drop 2).take (Tryz.prog.cellsOf 3)) = some y2 := hf 2 _ rfl
  have f3 : DataW.trod enc Tryz.prog W base sp held n 2 (([c0, c1, c2, c3].drop 3).take (Tryz.prog.cellsOf 2)) = some y3 := hf 3 _ rfl
  rw [cel3] at f0 f1 f2
  rw [cel2] at f3
  obtain ⟨n0, e0, _, w0⟩ := DataW.trod_int Tryz.underlying3 f0
  obtain ⟨n1, e1, _, w1⟩ := DataW.trod_int Tryz.underlying3 f1
  obtain ⟨n2, e2, _, w2⟩ := DataW.trod_int Tryz.underlying3 f2
  obtain ⟨n3, e3, _, w3⟩ := DataW.trod_int Tryz.underlying2 f3
  simp at e0 e1 e2 e3
  subst e0 e1 e2 e3
  exact ⟨⟨n0, n1, n2, n3⟩, rfl, w0, w1, w2, w3⟩
theorem trod_row {fuel : Nat} {cs : List Value} {x : DataW H × List MemPlace} (h : DataW.trod enc Tryz.prog W base sp held fuel 22 cs = some x) : ∃ a n c es, cs = [.slice a n c] ∧ Row W.heap a (ensV es) ∧ n = es.length := by
  rcases DataW.trod_slice Tryz.underlying22 h with ⟨rfl, _⟩ | ⟨a, len, cap, elems, rest, m, rfl, rfl, rfl, hb, hl, hm, hlen, hel, _, _⟩
  · exact ⟨none, 0, 0, [], rfl, .inl rfl, rfl⟩
  rw [cel26] at hel
  have each : ∀ i, i < len → ∃ e : En, ∀ k (hk : k < 4), W.cell? (a.add (i * 4 + k)) = (enV e)[k]? := by
    intro i hi
    have h1 := hel i hi
    rw [List.getElem?_eq_getElem (by omega), Option.bind_eq_some_iff] at h1
    obtain ⟨cs, h2, h3⟩ := h1
    obtain ⟨e, rfl, _⟩ := trod_en h3
    refine ⟨e, fun k hk => ?_⟩
    have h4 := (World.cells?_some h2).2.2 k hk
    rw [← h4]
    congr 1
    unfold Addr.add
    split <;> split <;> split <;> simp_all <;> omega
  obtain ⟨es, hes, hE⟩ := list_choose len each
  refine ⟨some a, len, cap, es, rfl, row_of fun i hi => ?_, hes.symm⟩
  rw [ensV_length] at hi
  have h1 := hE (i / 4) (by omega) (i % 4) (by omega)
  rw [show i / 4 * 4 + i % 4 = i by omega] at h1
  rw [h1, ← ensV_at es (i / 4) (i % 4) (by omega) (by omega), show i / 4 * 4 + i % 4 = i by omega, List.getElem?_eq_getElem (by rw [ensV_length]; omega)]
theorem open_book (hval : Value.okWide Tryz.prog W r b0 24 v) (hd : DataW.Trod enc Tryz.prog W base sp held 24 v d ps) : ∃ ac cl a n c es, v = .agg #[.int .i64 ac, .int .i64 cl, .slice a n c] ∧ Row W.heap a (ensV es) ∧ n = es.length := by
  obtain ⟨cs, rfl, hs⟩ := okWide_struct Tryz.underlying24 hval
  obtain ⟨fuel, hf⟩ := hd
  obtain ⟨xs, n, rfl, _, hl, hxl, hf⟩ := DataW.trod_struct Tryz.underlying24 hf
  rw [cel24] at hl
  simp only [Value.cells] at hl hf
  obtain ⟨cs⟩ := cs
  simp only at hl hf
  obtain ⟨c0, c1, c2, rfl⟩ : ∃ c0 c1 c2, cs = [c0, c1, c2] := by
    match cs, hl with
    | [c0, c1, c2], _ => exact ⟨_, _, _, rfl⟩
  obtain ⟨y0, y1, y2, rfl⟩ : ∃ y0 y1 y2, xs = [y0, y1, y2] := by
    match xs, hxl with
    | [y0, y1, y2], _ => exact ⟨_, _, _, rfl⟩
  have f0 : DataW.trod enc Tryz.prog W base sp held n 3 (([c0, c1, c2].drop 0).take (Tryz.prog.cellsOf 3)) = some y0 := hf 0 _ rfl
  have f1 : DataW.trod enc Tryz.prog W base sp held n 3 (([c0, c1, c2].drop 1).take (Tryz.prog.cellsOf 3)) = some y1 := hf 1 _ rfl
  have f2 : DataW.trod enc Tryz.prog W base sp held n 22 (([c0, c1, c2].drop 2).take (Tryz.prog.cellsOf 22)) = some y2 := hf 2 _ rfl
  rw [cel3] at f0 f1
  rw [cel22] at f2
  obtain ⟨n0, e0, _, w0⟩ := DataW.trod_int Tryz.underlying3 f0
  obtain ⟨n1, e1, _, w1⟩ := DataW.trod_int Tryz.underlying3 f1
  obtain ⟨a, m, c, es, e2, hr, hm⟩ := trod_row f2
  simp at e0 e1 e2
  subst e0 e1 e2
  exact ⟨n0, n1, a, m, c, es, rfl, hr, hm⟩
end opens
end Go.Proofs.YtepaekbjoombpaaGreatDoor
end
