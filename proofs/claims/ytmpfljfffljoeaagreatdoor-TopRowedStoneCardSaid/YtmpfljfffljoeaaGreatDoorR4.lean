/- The statement on rims and weights: its function in pieces. No condition. -/
import Derived.Test.YtmpfljfffljoeaaGreatDoorRunM
import Derived.Test.YtmpfljfffljoeaaGreatDoorPr
namespace Go.Proofs.YtmpfljfffljoeaaGreatDoor.R4
open Go Go.Proofs Go.Run Go.Eng
set_option maxRecDepth 100000
set_option linter.unusedVariables false
set_option linter.unusedSimpArgs false

@[reducible] noncomputable def M : Fm := ⟨depthOf Pt.ff4.nt, Pt.ff4.nt⟩
noncomputable def O0 : List Oper := [⟨some 6, .assign (.const (.bool false)), 4, "top10.go:50", #[], none⟩]
noncomputable def O1 : List Oper := [⟨some 26, .move (.tmp 0), 5, "top10.go:51", #[], none⟩, ⟨some 27, .convert 5 3 (.tmp 26), 3, "top10.go:51", #[⟨0, .data⟩], none⟩, ⟨some 28, .binOp .rem 3 (.tmp 27) (.const (.int .i64 3)) 3, 3, "top10.go:51", #[⟨1, .data⟩], none⟩, ⟨some 29, .binOp .add 3 (.const (.int .i64 2)) (.tmp 28) 3, 3, "top10.go:51", #[⟨2, .data⟩], none⟩, ⟨some 30, .move (.tmp 1), 5, "top10.go:51", #[⟨8, .gcOnly .lateStores⟩], none⟩, ⟨some 31, .convert 5 3 (.tmp 30), 3, "top10.go:51", #[⟨4, .data⟩, ⟨8, .gcOnly .lateStores⟩], none⟩, ⟨some 32, .binOp .rem 3 (.tmp 31) (.const (.int .i64 3)) 3, 3, "top10.go:51", #[⟨5, .data⟩, ⟨8, .gcOnly .lateStores⟩], none⟩, ⟨some 33, .binOp .add 3 (.const (.int .i64 1)) (.tmp 32) 3, 3, "top10.go:51", #[⟨6, .data⟩, ⟨8, .gcOnly .lateStores⟩], none⟩, ⟨some 7, .assign (.tmp 29), 3, "top10.go:51", #[⟨3, .data⟩, ⟨0, .phase⟩, ⟨1, .phase⟩, ⟨2, .phase⟩, ⟨3, .phase⟩, ⟨4, .textOnly .lateStores⟩, ⟨5, .textOnly .lateStores⟩, ⟨6, .textOnly .lateStores⟩, ⟨7, .textOnly .lateStores⟩], none⟩, ⟨some 8, .assign (.tmp 33), 3, "top10.go:51", #[⟨7, .data⟩, ⟨8, .chain⟩, ⟨0, .phase⟩, ⟨1, .phase⟩, ⟨2, .phase⟩, ⟨3, .phase⟩, ⟨4, .phase⟩, ⟨5, .phase⟩, ⟨6, .phase⟩, ⟨7, .phase⟩, ⟨8, .phase⟩], none⟩]
noncomputable def O9 : List Oper := [⟨some 64, .move (.tmp 2), 5, "top10.go:62", #[], none⟩, ⟨some 65, .convert 5 3 (.tmp 64), 3, "top10.go:62", #[⟨0, .data⟩], none⟩, ⟨some 66, .move (.tmp 9), 28, "top10.go:62", #[], none⟩, ⟨some 67, .call ⟨.builtin .len, #[.tmp 66], #[28]⟩, 3, "top10.go:62", #[⟨2, .data⟩], none⟩, ⟨some 68, .binOp .rem 3 (.tmp 65) (.tmp 67) 3, 3, "top10.go:62", #[⟨1, .data⟩, ⟨3, .data⟩], none⟩, ⟨some 14, .assign (.tmp 68), 3, "top10.go:62", #[⟨4, .data⟩, ⟨0, .phase⟩, ⟨1, .phase⟩, ⟨2, .phase⟩, ⟨3, .phase⟩, ⟨4, .phase⟩], none⟩]
theorem sA : segs Pt.ff4.body = .region 0 O0.toArray false :: .region 1 O1.toArray false :: (segs Pt.ff4.body).drop 2 := by kernel_rfl
theorem sB : (segs Pt.ff4.body).drop 9 = .region 12 O9.toArray false :: (segs Pt.ff4.body).drop 10 := by kernel_rfl
theorem in64 {z : Int} (h0 : -1000 ≤ z) (h1 : z ≤ 1000) : InK .i64 z := by
  have a : IntKind.i64.min = -9223372036854775808 := by decide
  have b : IntKind.i64.max = 9223372036854775807 := by decide
  exact ⟨by omega, by omega⟩
theorem hand0 (a b : Int) (h0 : 0 ≤ a) (h1 : a < 256) (g0 : 0 ≤ b) (g1 : b < 256) {K : Cont} {er : Env} {dr : List Deferred} {h : Heap} (hl : er.length = 171) (ha : er.getD 0 undef = .int .u8 a) (hb : er.getD 1 undef = .int .u8 b)
   (H : WPs none Tryz.prog ((segs Pt.ff4.body).drop 2) K (((((((((((er.set 6 (.bool false)).set 26 (.int .u8 a)).set 27 (.int .i64 a)).set 28 (.int .i64 (a % 3))).set 29 (.int .i64 (2 + a % 3))).set 30 (.int .u8 b)).set 31 (.int .i64 b)).set 32 (.int .i64 (b % 3))).set 33 (.int .i64 (1 + b % 3))).set 7 (.int .i64 (2 + a % 3))).set 8 (.int .i64 (1 + b % 3))) dr h) : WPs none Tryz.prog (segs Pt.ff4.body) K er dr h := by
  rw [sA]
  refine WPs_region ?_
  unfold O0
  have u3 : Tryz.prog.underlying 3 = some (.int .i64) := by kernel_rfl
  have u5 : Tryz.prog.underlying 5 = some (.int .u8) := by kernel_rfl
  simp only [coreS]
  show WPs none Tryz.prog (Code.region 1 O1.toArray false :: List.drop 2 (segs Pt.ff4.body)) K (er.set 6 (.bool false)) dr h
  refine WPs_region ?_
  unfold O1
  simp only [coreS, getD_setL, List.length_set, hl, ha, hb, u3, u5, true_and, Nat.reduceLT, Nat.reduceEqDiff, false_and]
  have e1 : a.tmod 3 = a % 3 := Int.tmod_eq_emod_of_nonneg h0
  have e2 : b.tmod 3 = b % 3 := Int.tmod_eq_emod_of_nonneg g0
  refine ⟨in64 (by omega) (by omega), by decide, in64 (by omega) (by omega), in64 (by omega) (by omega), by decide, in64 (by omega) (by omega), ?_⟩
  rw [e1, e2]
  exact H
theorem hand9 (c w : Int) (h0 : 0 ≤ c) (h1 : c < 256) (hw : 0 < w) (hw2 : w ≤ 120) {K : Cont} {er : Env} {dr : List Deferred} {h : Heap} {ad : Option Addr} {L cp : Nat} (hL : (L : Int) = w) (hl : er.length = 171) (hb : er.getD 2 undef = .int .u8 c) (h9 : er.getD 9 undef = .slice ad L cp)
   (H : WPs none Tryz.prog ((segs Pt.ff4.body).drop 10) K ((((((er.set 64 (.int .u8 c)).set 65 (.int .i64 c)).set 66 (.slice ad L cp)).set 67 (.int .i64 w)).set 68 (.int .i64 (c % w))).set 14 (.int .i64 (c % w))) dr h) : WPs none Tryz.prog ((segs Pt.ff4.body).drop 9) K er dr h := by
  rw [sB]
  refine WPs_region ?_
  unfold O9
  have u3 : Tryz.prog.underlying 3 = some (.int .i64) := by kernel_rfl
  have u5 : Tryz.prog.underlying 5 = some (.int .u8) := by kernel_rfl
  have u28 : Tryz.prog.underlying 28 = some (.slice 3) := by kernel_rfl
  simp only [coreS, getD_setL, List.length_set, hl, hb, h9, u3, u5, u28, blt_len_slice, true_and, Nat.reduceLT, Nat.reduceEqDiff, false_and, hL]
  have e1 : c.tmod w = c % w := Int.tmod_eq_emod_of_nonneg h0
  refine ⟨in64 (by omega) (by omega), by omega, ?_⟩
  rw [e1]
  exact H
/-- The frame behind the first two statements. -/
noncomputable def B (a b c k n : Int) : E := En.set (Pa.of M.dp 8) (.int .i64 n) (En.set (Pa.of M.dp 7) (.int .i64 k) (En.set (Pa.of M.dp 33) .any (En.set (Pa.of M.dp 32) .any (En.set (Pa.of M.dp 31) .any (En.set (Pa.of M.dp 30) .any (En.set (Pa.of M.dp 29) .any (En.set (Pa.of M.dp 28) .any (En.set (Pa.of M.dp 27) .any (En.set (Pa.of M.dp 26) .any (En.set (Pa.of M.dp 6) (.bool false) (fillE M [.int .u8 a, .int .u8 b, .int .u8 c] 0 (.leaf undefT) id)))))))))))
/-- What is known of a frame may be kept of some slots alone. -/
theorem keep {P : Program} {m : Fm} {e : E} {d : List Nat} {s : S} {h0 h : Heap} {er : Env} {dr : List Deferred} (G : Run.Good P m e d s h0 er dr h) (ks : List Nat) : Run.Good P m (keepQ m ks e (.leaf .any)) d s h0 er dr h := by
  obtain ⟨ι, re, r⟩ := G
  exact ⟨ι, keepQ_RE re ks _ ⟨re.len, re.fit, fun i hi => by rw [En.get_leaf]; simp [VR]⟩, r⟩
/-- A slot that holds a slice. -/
theorem sliceAt {P : Program} {m : Fm} {e : E} {d : List Nat} {s : S} {h0 h : Heap} {er : Env} {dr : List Deferred} (G : Run.Good P m e d s h0 er dr h) {t b o L c : Nat} (ht : t < m.n) (hz : En.get (Pa.of m.dp t) e = .slice b o L c ∨ En.get (Pa.of m.dp t) e = .own b L) : ∃ ad cp, er.getD t undef = .slice ad L cp := by
  obtain ⟨ι, re, _⟩ := G
  have := re.get t ht
  rcases hz with hz | hz
  · rw [hz] at this
    simp only [VR] at this
    obtain ⟨x, _, h2⟩ := this
    exact ⟨_, _, h2⟩
  · rw [hz] at this
    simp only [VR] at this
    obtain ⟨x, _, h2, _⟩ := this
    exact ⟨_, _, h2⟩
theorem nil {Q : Nat → Prop} : ∀ r, r < 0 → Q r := fun _ h => absurd h (Nat.not_lt_zero _)
theorem st {Q : Nat → Prop} {k : Nat} (h : ∀ r, r < k → Q r) (t : Q k) : ∀ r, r < k + 1 → Q r := fun r hr => by
  rcases Nat.lt_succ_iff_lt_or_eq.1 hr with h1 | rfl
  · exact h r h1
  · exact t
noncomputable def S21 : S := ⟨fromV [(18, .row [.int .i64 0, .int .i64 1] 3 true), (21, .row [.int .i64 1, .int .i64 1] 24 true)] (.leaf none), 22, 7⟩
noncomputable def C21 (c : Int) : E := fromE M [(2, .int .u8 c), (6, .bool false), (7, .int .i64 2), (8, .int .i64 1), (9, .own 18 2), (10, .int .i64 0), (11, .own 21 1), (12, .int .i64 2)] (.leaf .any)
noncomputable def E21 (r : Nat) : E := fromE M [(6, .bool false), (7, .int .i64 2), (8, .int .i64 1), (9, .own 18 2), (10, .int .i64 0), (11, .own 21 1), (12, .int .i64 2), (14, .int .i64 (.ofNat r))] (.leaf .any)
noncomputable def x21_0 : Mr := ⟨[.own 21 1, .int .i64 1], [(21, .row [.int .i64 1, .int .i64 1] 24 true)], .tup [.int .i64 1, .int .i64 0], []⟩
noncomputable def x21_1 : Mr := ⟨[.own 21 1, .int .i64 1, .int .i64 0], [(21, .row [.int .i64 1, .int .i64 1] 24 true)], .tup [.slice 10060 0 1 1, .int .i64 0], [(10060, .row [.int .i64 0] 2 false)]⟩
noncomputable def x21_2 : Mr := ⟨[.own 21 1, .int .i64 1, .int .i64 1], [(21, .row [.int .i64 1, .int .i64 1] 24 true)], .tup [.own 10062 1, .int .i64 0], [(10062, .row [.int .i64 1] 2 true)]⟩
noncomputable def m5_21 : List Mr := [x21_0]
noncomputable def m8_21 : List Mr := [x21_1, x21_2]
noncomputable def p21 : Pr := withM Pt.pr (memsOf [(10, flatM memT), (5, memR 10000 m5_21), (8, memR 10000 m8_21)])
def Q21 (r : Nat) : Prop := lastB p21 1000000 M Pt.ff4.res ((segs Pt.ff4.body).drop 10) (E21 r) [] S21 = true
noncomputable def S22 : S := ⟨fromV [(23, .row [.int .i64 0, .int .i64 0, .int .i64 1, .int .i64 1] 3 true), (29, .row [.int .i64 1, .int .i64 1, .int .i64 2, .int .i64 1] 24 true)] (.leaf none), 30, 7⟩
noncomputable def C22 (c : Int) : E := fromE M [(2, .int .u8 c), (6, .bool false), (7, .int .i64 2), (8, .int .i64 2), (9, .own 23 4), (10, .int .i64 0), (11, .own 29 2), (12, .int .i64 4)] (.leaf .any)
noncomputable def E22 (r : Nat) : E := fromE M [(6, .bool false), (7, .int .i64 2), (8, .int .i64 2), (9, .own 23 4), (10, .int .i64 0), (11, .own 29 2), (12, .int .i64 4), (14, .int .i64 (.ofNat r))] (.leaf .any)
noncomputable def x22_0 : Mr := ⟨[.own 29 2, .int .i64 1], [(29, .row [.int .i64 1, .int .i64 1, .int .i64 2, .int .i64 1] 24 true)], .tup [.int .i64 3, .int .i64 0], []⟩
noncomputable def x22_1 : Mr := ⟨[.own 29 2, .int .i64 1, .int .i64 0], [(29, .row [.int .i64 1, .int .i64 1, .int .i64 2, .int .i64 1] 24 true)], .tup [.slice 10119 0 2 2, .int .i64 0], [(10119, .row [.int .i64 0, .int .i64 0] 2 false)]⟩
noncomputable def x22_2 : Mr := ⟨[.own 29 2, .int .i64 1, .int .i64 1], [(29, .row [.int .i64 1, .int .i64 1, .int .i64 2, .int .i64 1] 24 true)], .tup [.own 10121 2, .int .i64 0], [(10121, .row [.int .i64 1, .int .i64 0] 2 true)]⟩
noncomputable def x22_3 : Mr := ⟨[.own 29 2, .int .i64 1, .int .i64 2], [(29, .row [.int .i64 1, .int .i64 1, .int .i64 2, .int .i64 1] 24 true)], .tup [.own 10121 2, .int .i64 0], [(10121, .row [.int .i64 0, .int .i64 1] 2 true)]⟩
noncomputable def x22_4 : Mr := ⟨[.own 29 2, .int .i64 1, .int .i64 3], [(29, .row [.int .i64 1, .int .i64 1, .int .i64 2, .int .i64 1] 24 true)], .tup [.own 10125 2, .int .i64 0], [(10125, .row [.int .i64 1, .int .i64 1] 2 true)]⟩
noncomputable def m5_22 : List Mr := [x22_0]
noncomputable def m8_22 : List Mr := [x22_1, x22_2, x22_3, x22_4]
noncomputable def p22 : Pr := withM Pt.pr (memsOf [(10, flatM memT), (5, memR 10000 m5_22), (8, memR 10000 m8_22)])
def Q22 (r : Nat) : Prop := lastB p22 1000000 M Pt.ff4.res ((segs Pt.ff4.body).drop 10) (E22 r) [] S22 = true
noncomputable def S23 : S := ⟨fromV [(31, .row (il [0, 0, 0, 1, 0, 1, 1, 1]) 3 true), (40, .row (il [1, 1, 2, 1, 4, 1]) 24 true)] (.leaf none), 41, 7⟩
noncomputable def C23 (c : Int) : E := fromE M [(2, .int .u8 c), (6, .bool false), (7, .int .i64 2), (8, .int .i64 3), (9, .own 31 8), (10, .int .i64 0), (11, .own 40 3), (12, .int .i64 8)] (.leaf .any)
noncomputable def E23 (r : Nat) : E := fromE M [(6, .bool false), (7, .int .i64 2), (8, .int .i64 3), (9, .own 31 8), (10, .int .i64 0), (11, .own 40 3), (12, .int .i64 8), (14, .int .i64 (.ofNat r))] (.leaf .any)
noncomputable def x23_0 : Mr := ⟨[.own 40 3, .int .i64 1], [(40, .row (il [1, 1, 2, 1, 4, 1]) 24 true)], .tup [.int .i64 7, .int .i64 0], []⟩
noncomputable def x23_1 : Mr := ⟨[.own 40 3, .int .i64 1, .int .i64 0], [(40, .row (il [1, 1, 2, 1, 4, 1]) 24 true)], .tup [.slice 10216 0 3 3, .int .i64 0], [(10216, .row [.int .i64 0, .int .i64 0, .int .i64 0] 2 false)]⟩
noncomputable def x23_2 : Mr := ⟨[.own 40 3, .int .i64 1, .int .i64 1], [(40, .row (il [1, 1, 2, 1, 4, 1]) 24 true)], .tup [.own 10218 3, .int .i64 0], [(10218, .row [.int .i64 1, .int .i64 0, .int .i64 0] 2 true)]⟩
noncomputable def x23_3 : Mr := ⟨[.own 40 3, .int .i64 1, .int .i64 2], [(40, .row (il [1, 1, 2, 1, 4, 1]) 24 true)], .tup [.own 10218 3, .int .i64 0], [(10218, .row [.int .i64 0, .int .i64 1, .int .i64 0] 2 true)]⟩
noncomputable def x23_4 : Mr := ⟨[.own 40 3, .int .i64 1, .int .i64 3], [(40, .row (il [1, 1, 2, 1, 4, 1]) 24 true)], .tup [.own 10222 3, .int .i64 0], [(10222, .row [.int .i64 1, .int .i64 1, .int .i64 0] 2 true)]⟩
noncomputable def x23_5 : Mr := ⟨[.own 40 3, .int .i64 1, .int .i64 4], [(40, .row (il [1, 1, 2, 1, 4, 1]) 24 true)], .tup [.own 10218 3, .int .i64 0], [(10218, .row [.int .i64 0, .int .i64 0, .int .i64 1] 2 true)]⟩
noncomputable def x23_6 : Mr := ⟨[.own 40 3, .int .i64 1, .int .i64 5], [(40, .row (il [1, 1, 2, 1, 4, 1]) 24 true)], .tup [.own 10222 3, .int .i64 0], [(10222, .row [.int .i64 1, .int .i64 0, .int .i64 1] 2 true)]⟩
noncomputable def x23_7 : Mr := ⟨[.own 40 3, .int .i64 1, .int .i64 6], [(40, .row (il [1, 1, 2, 1, 4, 1]) 24 true)], .tup [.own 10222 3, .int .i64 0], [(10222, .row [.int .i64 0, .int .i64 1, .int .i64 1] 2 true)]⟩
noncomputable def x23_8 : Mr := ⟨[.own 40 3, .int .i64 1, .int .i64 7], [(40, .row (il [1, 1, 2, 1, 4, 1]) 24 true)], .tup [.own 10226 3, .int .i64 0], [(10226, .row [.int .i64 1, .int .i64 1, .int .i64 1] 2 true)]⟩
noncomputable def m5_23 : List Mr := [x23_0]
noncomputable def m8_23 : List Mr := [x23_1, x23_2, x23_3, x23_4, x23_5, x23_6, x23_7, x23_8]
noncomputable def p23 : Pr := withM Pt.pr (memsOf [(10, flatM memT), (5, memR 10000 m5_23), (8, memR 10000 m8_23)])
def Q23 (r : Nat) : Prop := lastB p23 1000000 M Pt.ff4.res ((segs Pt.ff4.body).drop 10) (E23 r) [] S23 = true
noncomputable def S31 : S := ⟨fromV [(21, .row [.int .i64 0, .int .i64 1, .int .i64 2] 3 true), (24, .row [.int .i64 1, .int .i64 2] 24 true)] (.leaf none), 25, 7⟩
noncomputable def C31 (c : Int) : E := fromE M [(2, .int .u8 c), (6, .bool false), (7, .int .i64 3), (8, .int .i64 1), (9, .own 21 3), (10, .int .i64 0), (11, .own 24 1), (12, .int .i64 3)] (.leaf .any)
noncomputable def E31 (r : Nat) : E := fromE M [(6, .bool false), (7, .int .i64 3), (8, .int .i64 1), (9, .own 21 3), (10, .int .i64 0), (11, .own 24 1), (12, .int .i64 3), (14, .int .i64 (.ofNat r))] (.leaf .any)
noncomputable def x31_0 : Mr := ⟨[.own 24 1, .int .i64 1], [(24, .row [.int .i64 1, .int .i64 2] 24 true)], .tup [.int .i64 2, .int .i64 0], []⟩
noncomputable def x31_1 : Mr := ⟨[.own 24 1, .int .i64 1, .int .i64 0], [(24, .row [.int .i64 1, .int .i64 2] 24 true)], .tup [.slice 10066 0 1 1, .int .i64 0], [(10066, .row [.int .i64 0] 2 false)]⟩
noncomputable def x31_2 : Mr := ⟨[.own 24 1, .int .i64 1, .int .i64 1], [(24, .row [.int .i64 1, .int .i64 2] 24 true)], .tup [.own 10068 1, .int .i64 0], [(10068, .row [.int .i64 1] 2 true)]⟩
noncomputable def x31_3 : Mr := ⟨[.own 24 1, .int .i64 1, .int .i64 2], [(24, .row [.int .i64 1, .int .i64 2] 24 true)], .tup [.own 10072 1, .int .i64 0], [(10072, .row [.int .i64 2] 2 true)]⟩
noncomputable def m5_31 : List Mr := [x31_0]
noncomputable def m8_31 : List Mr := [x31_1, x31_2, x31_3]
noncomputable def p31 : Pr := withM Pt.pr (memsOf [(10, flatM memT), (5, memR 10000 m5_31), (8, memR 10000 m8_31)])
def Q31 (r : Nat) : Prop := lastB p31 1000000 M Pt.ff4.res ((segs Pt.ff4.body).drop 10) (E31 r) [] S31 = true
noncomputable def S32 : S := ⟨fromV [(33, .row (il [0, 0, 1, 0, 2, 1, 1, 2, 2]) 3 true), (39, .row [.int .i64 1, .int .i64 2, .int .i64 3, .int .i64 2] 24 true)] (.leaf none), 40, 7⟩
noncomputable def C32 (c : Int) : E := fromE M [(2, .int .u8 c), (6, .bool false), (7, .int .i64 3), (8, .int .i64 2), (9, .own 33 9), (10, .int .i64 0), (11, .own 39 2), (12, .int .i64 9)] (.leaf .any)
noncomputable def E32 (r : Nat) : E := fromE M [(6, .bool false), (7, .int .i64 3), (8, .int .i64 2), (9, .own 33 9), (10, .int .i64 0), (11, .own 39 2), (12, .int .i64 9), (14, .int .i64 (.ofNat r))] (.leaf .any)
noncomputable def x32_0 : Mr := ⟨[.own 39 2, .int .i64 1], [(39, .row [.int .i64 1, .int .i64 2, .int .i64 3, .int .i64 2] 24 true)], .tup [.int .i64 8, .int .i64 0], []⟩
noncomputable def x32_1 : Mr := ⟨[.own 39 2, .int .i64 1, .int .i64 0], [(39, .row [.int .i64 1, .int .i64 2, .int .i64 3, .int .i64 2] 24 true)], .tup [.slice 10162 0 2 2, .int .i64 0], [(10162, .row [.int .i64 0, .int .i64 0] 2 false)]⟩
noncomputable def x32_2 : Mr := ⟨[.own 39 2, .int .i64 1, .int .i64 1], [(39, .row [.int .i64 1, .int .i64 2, .int .i64 3, .int .i64 2] 24 true)], .tup [.own 10164 2, .int .i64 0], [(10164, .row [.int .i64 1, .int .i64 0] 2 true)]⟩
noncomputable def x32_3 : Mr := ⟨[.own 39 2, .int .i64 1, .int .i64 2], [(39, .row [.int .i64 1, .int .i64 2, .int .i64 3, .int .i64 2] 24 true)], .tup [.own 10168 2, .int .i64 0], [(10168, .row [.int .i64 2, .int .i64 0] 2 true)]⟩
noncomputable def x32_4 : Mr := ⟨[.own 39 2, .int .i64 1, .int .i64 3], [(39, .row [.int .i64 1, .int .i64 2, .int .i64 3, .int .i64 2] 24 true)], .tup [.own 10164 2, .int .i64 0], [(10164, .row [.int .i64 0, .int .i64 1] 2 true)]⟩
noncomputable def x32_5 : Mr := ⟨[.own 39 2, .int .i64 1, .int .i64 4], [(39, .row [.int .i64 1, .int .i64 2, .int .i64 3, .int .i64 2] 24 true)], .tup [.own 10168 2, .int .i64 0], [(10168, .row [.int .i64 1, .int .i64 1] 2 true)]⟩
noncomputable def x32_6 : Mr := ⟨[.own 39 2, .int .i64 1, .int .i64 5], [(39, .row [.int .i64 1, .int .i64 2, .int .i64 3, .int .i64 2] 24 true)], .tup [.own 10172 2, .int .i64 0], [(10172, .row [.int .i64 2, .int .i64 1] 2 true)]⟩
noncomputable def x32_7 : Mr := ⟨[.own 39 2, .int .i64 1, .int .i64 6], [(39, .row [.int .i64 1, .int .i64 2, .int .i64 3, .int .i64 2] 24 true)], .tup [.own 10168 2, .int .i64 0], [(10168, .row [.int .i64 0, .int .i64 2] 2 true)]⟩
noncomputable def x32_8 : Mr := ⟨[.own 39 2, .int .i64 1, .int .i64 7], [(39, .row [.int .i64 1, .int .i64 2, .int .i64 3, .int .i64 2] 24 true)], .tup [.own 10172 2, .int .i64 0], [(10172, .row [.int .i64 1, .int .i64 2] 2 true)]⟩
noncomputable def x32_9 : Mr := ⟨[.own 39 2, .int .i64 1, .int .i64 8], [(39, .row [.int .i64 1, .int .i64 2, .int .i64 3, .int .i64 2] 24 true)], .tup [.own 10176 2, .int .i64 0], [(10176, .row [.int .i64 2, .int .i64 2] 2 true)]⟩
noncomputable def m5_32 : List Mr := [x32_0]
noncomputable def m8_32 : List Mr := [x32_1, x32_2, x32_3, x32_4, x32_5, x32_6, x32_7, x32_8, x32_9]
noncomputable def p32 : Pr := withM Pt.pr (memsOf [(10, flatM memT), (5, memR 10000 m5_32), (8, memR 10000 m8_32)])
def Q32 (r : Nat) : Prop := lastB p32 1000000 M Pt.ff4.res ((segs Pt.ff4.body).drop 10) (E32 r) [] S32 = true
noncomputable def S33 : S := ⟨fromV [(60, .row (il [0, 0, 0, 1, 0, 0, 2, 0, 1, 1, 0, 1, 2, 0, 2, 1, 0, 2, 2, 1, 1, 1, 2, 1, 2, 2, 2]) 3 true), (69, .row (il [1, 2, 3, 2, 9, 2]) 24 true)] (.leaf none), 70, 7⟩
noncomputable def C33 (c : Int) : E := fromE M [(2, .int .u8 c), (6, .bool false), (7, .int .i64 3), (8, .int .i64 3), (9, .own 60 27), (10, .int .i64 0), (11, .own 69 3), (12, .int .i64 27)] (.leaf .any)
noncomputable def E33 (r : Nat) : E := fromE M [(6, .bool false), (7, .int .i64 3), (8, .int .i64 3), (9, .own 60 27), (10, .int .i64 0), (11, .own 69 3), (12, .int .i64 27), (14, .int .i64 (.ofNat r))] (.leaf .any)
noncomputable def x33_0 : Mr := ⟨[.own 69 3, .int .i64 1], [(69, .row (il [1, 2, 3, 2, 9, 2]) 24 true)], .tup [.int .i64 26, .int .i64 0], []⟩
noncomputable def x33_1 : Mr := ⟨[.own 69 3, .int .i64 1, .int .i64 0], [(69, .row (il [1, 2, 3, 2, 9, 2]) 24 true)], .tup [.slice 10408 0 3 3, .int .i64 0], [(10408, .row [.int .i64 0, .int .i64 0, .int .i64 0] 2 false)]⟩
noncomputable def x33_2 : Mr := ⟨[.own 69 3, .int .i64 1, .int .i64 1], [(69, .row (il [1, 2, 3, 2, 9, 2]) 24 true)], .tup [.own 10410 3, .int .i64 0], [(10410, .row [.int .i64 1, .int .i64 0, .int .i64 0] 2 true)]⟩
noncomputable def x33_3 : Mr := ⟨[.own 69 3, .int .i64 1, .int .i64 2], [(69, .row (il [1, 2, 3, 2, 9, 2]) 24 true)], .tup [.own 10414 3, .int .i64 0], [(10414, .row [.int .i64 2, .int .i64 0, .int .i64 0] 2 true)]⟩
noncomputable def x33_4 : Mr := ⟨[.own 69 3, .int .i64 1, .int .i64 3], [(69, .row (il [1, 2, 3, 2, 9, 2]) 24 true)], .tup [.own 10410 3, .int .i64 0], [(10410, .row [.int .i64 0, .int .i64 1, .int .i64 0] 2 true)]⟩
noncomputable def x33_5 : Mr := ⟨[.own 69 3, .int .i64 1, .int .i64 4], [(69, .row (il [1, 2, 3, 2, 9, 2]) 24 true)], .tup [.own 10414 3, .int .i64 0], [(10414, .row [.int .i64 1, .int .i64 1, .int .i64 0] 2 true)]⟩
noncomputable def x33_6 : Mr := ⟨[.own 69 3, .int .i64 1, .int .i64 5], [(69, .row (il [1, 2, 3, 2, 9, 2]) 24 true)], .tup [.own 10418 3, .int .i64 0], [(10418, .row [.int .i64 2, .int .i64 1, .int .i64 0] 2 true)]⟩
noncomputable def x33_7 : Mr := ⟨[.own 69 3, .int .i64 1, .int .i64 6], [(69, .row (il [1, 2, 3, 2, 9, 2]) 24 true)], .tup [.own 10414 3, .int .i64 0], [(10414, .row [.int .i64 0, .int .i64 2, .int .i64 0] 2 true)]⟩
noncomputable def x33_8 : Mr := ⟨[.own 69 3, .int .i64 1, .int .i64 7], [(69, .row (il [1, 2, 3, 2, 9, 2]) 24 true)], .tup [.own 10418 3, .int .i64 0], [(10418, .row [.int .i64 1, .int .i64 2, .int .i64 0] 2 true)]⟩
noncomputable def x33_9 : Mr := ⟨[.own 69 3, .int .i64 1, .int .i64 8], [(69, .row (il [1, 2, 3, 2, 9, 2]) 24 true)], .tup [.own 10422 3, .int .i64 0], [(10422, .row [.int .i64 2, .int .i64 2, .int .i64 0] 2 true)]⟩
noncomputable def x33_10 : Mr := ⟨[.own 69 3, .int .i64 1, .int .i64 9], [(69, .row (il [1, 2, 3, 2, 9, 2]) 24 true)], .tup [.own 10410 3, .int .i64 0], [(10410, .row [.int .i64 0, .int .i64 0, .int .i64 1] 2 true)]⟩
noncomputable def x33_11 : Mr := ⟨[.own 69 3, .int .i64 1, .int .i64 10], [(69, .row (il [1, 2, 3, 2, 9, 2]) 24 true)], .tup [.own 10414 3, .int .i64 0], [(10414, .row [.int .i64 1, .int .i64 0, .int .i64 1] 2 true)]⟩
noncomputable def x33_12 : Mr := ⟨[.own 69 3, .int .i64 1, .int .i64 11], [(69, .row (il [1, 2, 3, 2, 9, 2]) 24 true)], .tup [.own 10418 3, .int .i64 0], [(10418, .row [.int .i64 2, .int .i64 0, .int .i64 1] 2 true)]⟩
noncomputable def x33_13 : Mr := ⟨[.own 69 3, .int .i64 1, .int .i64 12], [(69, .row (il [1, 2, 3, 2, 9, 2]) 24 true)], .tup [.own 10414 3, .int .i64 0], [(10414, .row [.int .i64 0, .int .i64 1, .int .i64 1] 2 true)]⟩
noncomputable def x33_14 : Mr := ⟨[.own 69 3, .int .i64 1, .int .i64 13], [(69, .row (il [1, 2, 3, 2, 9, 2]) 24 true)], .tup [.own 10418 3, .int .i64 0], [(10418, .row [.int .i64 1, .int .i64 1, .int .i64 1] 2 true)]⟩
noncomputable def x33_15 : Mr := ⟨[.own 69 3, .int .i64 1, .int .i64 14], [(69, .row (il [1, 2, 3, 2, 9, 2]) 24 true)], .tup [.own 10422 3, .int .i64 0], [(10422, .row [.int .i64 2, .int .i64 1, .int .i64 1] 2 true)]⟩
noncomputable def x33_16 : Mr := ⟨[.own 69 3, .int .i64 1, .int .i64 15], [(69, .row (il [1, 2, 3, 2, 9, 2]) 24 true)], .tup [.own 10418 3, .int .i64 0], [(10418, .row [.int .i64 0, .int .i64 2, .int .i64 1] 2 true)]⟩
noncomputable def x33_17 : Mr := ⟨[.own 69 3, .int .i64 1, .int .i64 16], [(69, .row (il [1, 2, 3, 2, 9, 2]) 24 true)], .tup [.own 10422 3, .int .i64 0], [(10422, .row [.int .i64 1, .int .i64 2, .int .i64 1] 2 true)]⟩
noncomputable def x33_18 : Mr := ⟨[.own 69 3, .int .i64 1, .int .i64 17], [(69, .row (il [1, 2, 3, 2, 9, 2]) 24 true)], .tup [.own 10426 3, .int .i64 0], [(10426, .row [.int .i64 2, .int .i64 2, .int .i64 1] 2 true)]⟩
noncomputable def x33_19 : Mr := ⟨[.own 69 3, .int .i64 1, .int .i64 18], [(69, .row (il [1, 2, 3, 2, 9, 2]) 24 true)], .tup [.own 10414 3, .int .i64 0], [(10414, .row [.int .i64 0, .int .i64 0, .int .i64 2] 2 true)]⟩
noncomputable def x33_20 : Mr := ⟨[.own 69 3, .int .i64 1, .int .i64 19], [(69, .row (il [1, 2, 3, 2, 9, 2]) 24 true)], .tup [.own 10418 3, .int .i64 0], [(10418, .row [.int .i64 1, .int .i64 0, .int .i64 2] 2 true)]⟩
noncomputable def x33_21 : Mr := ⟨[.own 69 3, .int .i64 1, .int .i64 20], [(69, .row (il [1, 2, 3, 2, 9, 2]) 24 true)], .tup [.own 10422 3, .int .i64 0], [(10422, .row [.int .i64 2, .int .i64 0, .int .i64 2] 2 true)]⟩
noncomputable def x33_22 : Mr := ⟨[.own 69 3, .int .i64 1, .int .i64 21], [(69, .row (il [1, 2, 3, 2, 9, 2]) 24 true)], .tup [.own 10418 3, .int .i64 0], [(10418, .row [.int .i64 0, .int .i64 1, .int .i64 2] 2 true)]⟩
noncomputable def x33_23 : Mr := ⟨[.own 69 3, .int .i64 1, .int .i64 22], [(69, .row (il [1, 2, 3, 2, 9, 2]) 24 true)], .tup [.own 10422 3, .int .i64 0], [(10422, .row [.int .i64 1, .int .i64 1, .int .i64 2] 2 true)]⟩
noncomputable def x33_24 : Mr := ⟨[.own 69 3, .int .i64 1, .int .i64 23], [(69, .row (il [1, 2, 3, 2, 9, 2]) 24 true)], .tup [.own 10426 3, .int .i64 0], [(10426, .row [.int .i64 2, .int .i64 1, .int .i64 2] 2 true)]⟩
noncomputable def x33_25 : Mr := ⟨[.own 69 3, .int .i64 1, .int .i64 24], [(69, .row (il [1, 2, 3, 2, 9, 2]) 24 true)], .tup [.own 10422 3, .int .i64 0], [(10422, .row [.int .i64 0, .int .i64 2, .int .i64 2] 2 true)]⟩
noncomputable def x33_26 : Mr := ⟨[.own 69 3, .int .i64 1, .int .i64 25], [(69, .row (il [1, 2, 3, 2, 9, 2]) 24 true)], .tup [.own 10426 3, .int .i64 0], [(10426, .row [.int .i64 1, .int .i64 2, .int .i64 2] 2 true)]⟩
noncomputable def x33_27 : Mr := ⟨[.own 69 3, .int .i64 1, .int .i64 26], [(69, .row (il [1, 2, 3, 2, 9, 2]) 24 true)], .tup [.own 10430 3, .int .i64 0], [(10430, .row [.int .i64 2, .int .i64 2, .int .i64 2] 2 true)]⟩
noncomputable def m5_33 : List Mr := [x33_0]
noncomputable def m8_33 : List Mr := [x33_1, x33_2, x33_3, x33_4, x33_5, x33_6, x33_7, x33_8, x33_9, x33_10, x33_11, x33_12, x33_13, x33_14, x33_15, x33_16, x33_17, x33_18, x33_19, x33_20, x33_21, x33_22, x33_23, x33_24, x33_25, x33_26, x33_27]
noncomputable def p33 : Pr := withM Pt.pr (memsOf [(10, flatM memT), (5, memR 10000 m5_33), (8, memR 10000 m8_33)])
def Q33 (r : Nat) : Prop := lastB p33 1000000 M Pt.ff4.res ((segs Pt.ff4.body).drop 10) (E33 r) [] S33 = true
noncomputable def S41 : S := ⟨fromV [(24, .row [.int .i64 0, .int .i64 1, .int .i64 2, .int .i64 3] 3 true), (27, .row [.int .i64 1, .int .i64 3] 24 true)] (.leaf none), 28, 7⟩
noncomputable def C41 (c : Int) : E := fromE M [(2, .int .u8 c), (6, .bool false), (7, .int .i64 4), (8, .int .i64 1), (9, .own 24 4), (10, .int .i64 0), (11, .own 27 1), (12, .int .i64 4)] (.leaf .any)
noncomputable def E41 (r : Nat) : E := fromE M [(6, .bool false), (7, .int .i64 4), (8, .int .i64 1), (9, .own 24 4), (10, .int .i64 0), (11, .own 27 1), (12, .int .i64 4), (14, .int .i64 (.ofNat r))] (.leaf .any)
noncomputable def x41_0 : Mr := ⟨[.own 27 1, .int .i64 1], [(27, .row [.int .i64 1, .int .i64 3] 24 true)], .tup [.int .i64 3, .int .i64 0], []⟩
noncomputable def x41_1 : Mr := ⟨[.own 27 1, .int .i64 1, .int .i64 0], [(27, .row [.int .i64 1, .int .i64 3] 24 true)], .tup [.slice 10072 0 1 1, .int .i64 0], [(10072, .row [.int .i64 0] 2 false)]⟩
noncomputable def x41_2 : Mr := ⟨[.own 27 1, .int .i64 1, .int .i64 1], [(27, .row [.int .i64 1, .int .i64 3] 24 true)], .tup [.own 10074 1, .int .i64 0], [(10074, .row [.int .i64 1] 2 true)]⟩
noncomputable def x41_3 : Mr := ⟨[.own 27 1, .int .i64 1, .int .i64 2], [(27, .row [.int .i64 1, .int .i64 3] 24 true)], .tup [.own 10078 1, .int .i64 0], [(10078, .row [.int .i64 2] 2 true)]⟩
noncomputable def x41_4 : Mr := ⟨[.own 27 1, .int .i64 1, .int .i64 3], [(27, .row [.int .i64 1, .int .i64 3] 24 true)], .tup [.own 10082 1, .int .i64 0], [(10082, .row [.int .i64 3] 2 true)]⟩
noncomputable def m5_41 : List Mr := [x41_0]
noncomputable def m8_41 : List Mr := [x41_1, x41_2, x41_3, x41_4]
noncomputable def p41 : Pr := withM Pt.pr (memsOf [(10, flatM memT), (5, memR 10000 m5_41), (8, memR 10000 m8_41)])
def Q41 (r : Nat) : Prop := lastB p41 1000000 M Pt.ff4.res ((segs Pt.ff4.body).drop 10) (E41 r) [] S41 = true
noncomputable def S42 : S := ⟨fromV [(46, .row (il [0, 0, 1, 0, 2, 0, 3, 1, 1, 2, 1, 3, 2, 2, 3, 3]) 3 true), (52, .row [.int .i64 1, .int .i64 3, .int .i64 4, .int .i64 3] 24 true)] (.leaf none), 53, 7⟩
noncomputable def C42 (c : Int) : E := fromE M [(2, .int .u8 c), (6, .bool false), (7, .int .i64 4), (8, .int .i64 2), (9, .own 46 16), (10, .int .i64 0), (11, .own 52 2), (12, .int .i64 16)] (.leaf .any)
noncomputable def E42 (r : Nat) : E := fromE M [(6, .bool false), (7, .int .i64 4), (8, .int .i64 2), (9, .own 46 16), (10, .int .i64 0), (11, .own 52 2), (12, .int .i64 16), (14, .int .i64 (.ofNat r))] (.leaf .any)
noncomputable def x42_0 : Mr := ⟨[.own 52 2, .int .i64 1], [(52, .row [.int .i64 1, .int .i64 3, .int .i64 4, .int .i64 3] 24 true)], .tup [.int .i64 15, .int .i64 0], []⟩
noncomputable def x42_1 : Mr := ⟨[.own 52 2, .int .i64 1, .int .i64 0], [(52, .row [.int .i64 1, .int .i64 3, .int .i64 4, .int .i64 3] 24 true)], .tup [.slice 10217 0 2 2, .int .i64 0], [(10217, .row [.int .i64 0, .int .i64 0] 2 false)]⟩
noncomputable def x42_2 : Mr := ⟨[.own 52 2, .int .i64 1, .int .i64 1], [(52, .row [.int .i64 1, .int .i64 3, .int .i64 4, .int .i64 3] 24 true)], .tup [.own 10219 2, .int .i64 0], [(10219, .row [.int .i64 1, .int .i64 0] 2 true)]⟩
noncomputable def x42_3 : Mr := ⟨[.own 52 2, .int .i64 1, .int .i64 2], [(52, .row [.int .i64 1, .int .i64 3, .int .i64 4, .int .i64 3] 24 true)], .tup [.own 10223 2, .int .i64 0], [(10223, .row [.int .i64 2, .int .i64 0] 2 true)]⟩
noncomputable def x42_4 : Mr := ⟨[.own 52 2, .int .i64 1, .int .i64 3], [(52, .row [.int .i64 1, .int .i64 3, .int .i64 4, .int .i64 3] 24 true)], .tup [.own 10227 2, .int .i64 0], [(10227, .row [.int .i64 3, .int .i64 0] 2 true)]⟩
noncomputable def x42_5 : Mr := ⟨[.own 52 2, .int .i64 1, .int .i64 4], [(52, .row [.int .i64 1, .int .i64 3, .int .i64 4, .int .i64 3] 24 true)], .tup [.own 10219 2, .int .i64 0], [(10219, .row [.int .i64 0, .int .i64 1] 2 true)]⟩
noncomputable def x42_6 : Mr := ⟨[.own 52 2, .int .i64 1, .int .i64 5], [(52, .row [.int .i64 1, .int .i64 3, .int .i64 4, .int .i64 3] 24 true)], .tup [.own 10223 2, .int .i64 0], [(10223, .row [.int .i64 1, .int .i64 1] 2 true)]⟩
noncomputable def x42_7 : Mr := ⟨[.own 52 2, .int .i64 1, .int .i64 6], [(52, .row [.int .i64 1, .int .i64 3, .int .i64 4, .int .i64 3] 24 true)], .tup [.own 10227 2, .int .i64 0], [(10227, .row [.int .i64 2, .int .i64 1] 2 true)]⟩
noncomputable def x42_8 : Mr := ⟨[.own 52 2, .int .i64 1, .int .i64 7], [(52, .row [.int .i64 1, .int .i64 3, .int .i64 4, .int .i64 3] 24 true)], .tup [.own 10231 2, .int .i64 0], [(10231, .row [.int .i64 3, .int .i64 1] 2 true)]⟩
noncomputable def x42_9 : Mr := ⟨[.own 52 2, .int .i64 1, .int .i64 8], [(52, .row [.int .i64 1, .int .i64 3, .int .i64 4, .int .i64 3] 24 true)], .tup [.own 10223 2, .int .i64 0], [(10223, .row [.int .i64 0, .int .i64 2] 2 true)]⟩
noncomputable def x42_10 : Mr := ⟨[.own 52 2, .int .i64 1, .int .i64 9], [(52, .row [.int .i64 1, .int .i64 3, .int .i64 4, .int .i64 3] 24 true)], .tup [.own 10227 2, .int .i64 0], [(10227, .row [.int .i64 1, .int .i64 2] 2 true)]⟩
noncomputable def x42_11 : Mr := ⟨[.own 52 2, .int .i64 1, .int .i64 10], [(52, .row [.int .i64 1, .int .i64 3, .int .i64 4, .int .i64 3] 24 true)], .tup [.own 10231 2, .int .i64 0], [(10231, .row [.int .i64 2, .int .i64 2] 2 true)]⟩
noncomputable def x42_12 : Mr := ⟨[.own 52 2, .int .i64 1, .int .i64 11], [(52, .row [.int .i64 1, .int .i64 3, .int .i64 4, .int .i64 3] 24 true)], .tup [.own 10235 2, .int .i64 0], [(10235, .row [.int .i64 3, .int .i64 2] 2 true)]⟩
noncomputable def x42_13 : Mr := ⟨[.own 52 2, .int .i64 1, .int .i64 12], [(52, .row [.int .i64 1, .int .i64 3, .int .i64 4, .int .i64 3] 24 true)], .tup [.own 10227 2, .int .i64 0], [(10227, .row [.int .i64 0, .int .i64 3] 2 true)]⟩
noncomputable def x42_14 : Mr := ⟨[.own 52 2, .int .i64 1, .int .i64 13], [(52, .row [.int .i64 1, .int .i64 3, .int .i64 4, .int .i64 3] 24 true)], .tup [.own 10231 2, .int .i64 0], [(10231, .row [.int .i64 1, .int .i64 3] 2 true)]⟩
noncomputable def x42_15 : Mr := ⟨[.own 52 2, .int .i64 1, .int .i64 14], [(52, .row [.int .i64 1, .int .i64 3, .int .i64 4, .int .i64 3] 24 true)], .tup [.own 10235 2, .int .i64 0], [(10235, .row [.int .i64 2, .int .i64 3] 2 true)]⟩
noncomputable def x42_16 : Mr := ⟨[.own 52 2, .int .i64 1, .int .i64 15], [(52, .row [.int .i64 1, .int .i64 3, .int .i64 4, .int .i64 3] 24 true)], .tup [.own 10239 2, .int .i64 0], [(10239, .row [.int .i64 3, .int .i64 3] 2 true)]⟩
noncomputable def m5_42 : List Mr := [x42_0]
noncomputable def m8_42 : List Mr := [x42_1, x42_2, x42_3, x42_4, x42_5, x42_6, x42_7, x42_8, x42_9, x42_10, x42_11, x42_12, x42_13, x42_14, x42_15, x42_16]
noncomputable def p42 : Pr := withM Pt.pr (memsOf [(10, flatM memT), (5, memR 10000 m5_42), (8, memR 10000 m8_42)])
def Q42 (r : Nat) : Prop := lastB p42 1000000 M Pt.ff4.res ((segs Pt.ff4.body).drop 10) (E42 r) [] S42 = true
noncomputable def S43 : S := ⟨fromV [(110, .row (il [0, 0, 0, 1, 0, 0, 2, 0, 0, 3, 0, 1, 1, 0, 1, 2, 0, 1, 3, 0, 2, 1, 0, 2, 2, 0, 2, 3, 0, 3, 1, 0, 3, 2, 0, 3, 3, 1, 1, 1, 2, 1, 1, 3, 1, 2, 2, 1, 2, 3, 1, 3, 2, 1, 3, 3, 2, 2, 2, 3, 2, 3, 3, 3]) 3 true), (119, .row (il [1, 3, 4, 3, 16, 3]) 24 true)] (.leaf none), 120, 7⟩
noncomputable def C43 (c : Int) : E := fromE M [(2, .int .u8 c), (6, .bool false), (7, .int .i64 4), (8, .int .i64 3), (9, .own 110 64), (10, .int .i64 0), (11, .own 119 3), (12, .int .i64 64)] (.leaf .any)
noncomputable def E43 (r : Nat) : E := fromE M [(6, .bool false), (7, .int .i64 4), (8, .int .i64 3), (9, .own 110 64), (10, .int .i64 0), (11, .own 119 3), (12, .int .i64 64), (14, .int .i64 (.ofNat r))] (.leaf .any)
noncomputable def x43_0 : Mr := ⟨[.own 119 3, .int .i64 1], [(119, .row (il [1, 3, 4, 3, 16, 3]) 24 true)], .tup [.int .i64 63, .int .i64 0], []⟩
noncomputable def x43_1 : Mr := ⟨[.own 119 3, .int .i64 1, .int .i64 0], [(119, .row (il [1, 3, 4, 3, 16, 3]) 24 true)], .tup [.slice 10734 0 3 3, .int .i64 0], [(10734, .row [.int .i64 0, .int .i64 0, .int .i64 0] 2 false)]⟩
noncomputable def x43_2 : Mr := ⟨[.own 119 3, .int .i64 1, .int .i64 1], [(119, .row (il [1, 3, 4, 3, 16, 3]) 24 true)], .tup [.own 10736 3, .int .i64 0], [(10736, .row [.int .i64 1, .int .i64 0, .int .i64 0] 2 true)]⟩
noncomputable def x43_3 : Mr := ⟨[.own 119 3, .int .i64 1, .int .i64 2], [(119, .row (il [1, 3, 4, 3, 16, 3]) 24 true)], .tup [.own 10740 3, .int .i64 0], [(10740, .row [.int .i64 2, .int .i64 0, .int .i64 0] 2 true)]⟩
noncomputable def x43_4 : Mr := ⟨[.own 119 3, .int .i64 1, .int .i64 3], [(119, .row (il [1, 3, 4, 3, 16, 3]) 24 true)], .tup [.own 10744 3, .int .i64 0], [(10744, .row [.int .i64 3, .int .i64 0, .int .i64 0] 2 true)]⟩
noncomputable def x43_5 : Mr := ⟨[.own 119 3, .int .i64 1, .int .i64 4], [(119, .row (il [1, 3, 4, 3, 16, 3]) 24 true)], .tup [.own 10736 3, .int .i64 0], [(10736, .row [.int .i64 0, .int .i64 1, .int .i64 0] 2 true)]⟩
noncomputable def x43_6 : Mr := ⟨[.own 119 3, .int .i64 1, .int .i64 5], [(119, .row (il [1, 3, 4, 3, 16, 3]) 24 true)], .tup [.own 10740 3, .int .i64 0], [(10740, .row [.int .i64 1, .int .i64 1, .int .i64 0] 2 true)]⟩
noncomputable def x43_7 : Mr := ⟨[.own 119 3, .int .i64 1, .int .i64 6], [(119, .row (il [1, 3, 4, 3, 16, 3]) 24 true)], .tup [.own 10744 3, .int .i64 0], [(10744, .row [.int .i64 2, .int .i64 1, .int .i64 0] 2 true)]⟩
noncomputable def x43_8 : Mr := ⟨[.own 119 3, .int .i64 1, .int .i64 7], [(119, .row (il [1, 3, 4, 3, 16, 3]) 24 true)], .tup [.own 10748 3, .int .i64 0], [(10748, .row [.int .i64 3, .int .i64 1, .int .i64 0] 2 true)]⟩
noncomputable def x43_9 : Mr := ⟨[.own 119 3, .int .i64 1, .int .i64 8], [(119, .row (il [1, 3, 4, 3, 16, 3]) 24 true)], .tup [.own 10740 3, .int .i64 0], [(10740, .row [.int .i64 0, .int .i64 2, .int .i64 0] 2 true)]⟩
noncomputable def x43_10 : Mr := ⟨[.own 119 3, .int .i64 1, .int .i64 9], [(119, .row (il [1, 3, 4, 3, 16, 3]) 24 true)], .tup [.own 10744 3, .int .i64 0], [(10744, .row [.int .i64 1, .int .i64 2, .int .i64 0] 2 true)]⟩
noncomputable def x43_11 : Mr := ⟨[.own 119 3, .int .i64 1, .int .i64 10], [(119, .row (il [1, 3, 4, 3, 16, 3]) 24 true)], .tup [.own 10748 3, .int .i64 0], [(10748, .row [.int .i64 2, .int .i64 2, .int .i64 0] 2 true)]⟩
noncomputable def x43_12 : Mr := ⟨[.own 119 3, .int .i64 1, .int .i64 11], [(119, .row (il [1, 3, 4, 3, 16, 3]) 24 true)], .tup [.own 10752 3, .int .i64 0], [(10752, .row [.int .i64 3, .int .i64 2, .int .i64 0] 2 true)]⟩
noncomputable def x43_13 : Mr := ⟨[.own 119 3, .int .i64 1, .int .i64 12], [(119, .row (il [1, 3, 4, 3, 16, 3]) 24 true)], .tup [.own 10744 3, .int .i64 0], [(10744, .row [.int .i64 0, .int .i64 3, .int .i64 0] 2 true)]⟩
noncomputable def x43_14 : Mr := ⟨[.own 119 3, .int .i64 1, .int .i64 13], [(119, .row (il [1, 3, 4, 3, 16, 3]) 24 true)], .tup [.own 10748 3, .int .i64 0], [(10748, .row [.int .i64 1, .int .i64 3, .int .i64 0] 2 true)]⟩
noncomputable def x43_15 : Mr := ⟨[.own 119 3, .int .i64 1, .int .i64 14], [(119, .row (il [1, 3, 4, 3, 16, 3]) 24 true)], .tup [.own 10752 3, .int .i64 0], [(10752, .row [.int .i64 2, .int .i64 3, .int .i64 0] 2 true)]⟩
noncomputable def x43_16 : Mr := ⟨[.own 119 3, .int .i64 1, .int .i64 15], [(119, .row (il [1, 3, 4, 3, 16, 3]) 24 true)], .tup [.own 10756 3, .int .i64 0], [(10756, .row [.int .i64 3, .int .i64 3, .int .i64 0] 2 true)]⟩
noncomputable def x43_17 : Mr := ⟨[.own 119 3, .int .i64 1, .int .i64 16], [(119, .row (il [1, 3, 4, 3, 16, 3]) 24 true)], .tup [.own 10736 3, .int .i64 0], [(10736, .row [.int .i64 0, .int .i64 0, .int .i64 1] 2 true)]⟩
noncomputable def x43_18 : Mr := ⟨[.own 119 3, .int .i64 1, .int .i64 17], [(119, .row (il [1, 3, 4, 3, 16, 3]) 24 true)], .tup [.own 10740 3, .int .i64 0], [(10740, .row [.int .i64 1, .int .i64 0, .int .i64 1] 2 true)]⟩
noncomputable def x43_19 : Mr := ⟨[.own 119 3, .int .i64 1, .int .i64 18], [(119, .row (il [1, 3, 4, 3, 16, 3]) 24 true)], .tup [.own 10744 3, .int .i64 0], [(10744, .row [.int .i64 2, .int .i64 0, .int .i64 1] 2 true)]⟩
noncomputable def x43_20 : Mr := ⟨[.own 119 3, .int .i64 1, .int .i64 19], [(119, .row (il [1, 3, 4, 3, 16, 3]) 24 true)], .tup [.own 10748 3, .int .i64 0], [(10748, .row [.int .i64 3, .int .i64 0, .int .i64 1] 2 true)]⟩
noncomputable def x43_21 : Mr := ⟨[.own 119 3, .int .i64 1, .int .i64 20], [(119, .row (il [1, 3, 4, 3, 16, 3]) 24 true)], .tup [.own 10740 3, .int .i64 0], [(10740, .row [.int .i64 0, .int .i64 1, .int .i64 1] 2 true)]⟩
noncomputable def x43_22 : Mr := ⟨[.own 119 3, .int .i64 1, .int .i64 21], [(119, .row (il [1, 3, 4, 3, 16, 3]) 24 true)], .tup [.own 10744 3, .int .i64 0], [(10744, .row [.int .i64 1, .int .i64 1, .int .i64 1] 2 true)]⟩
noncomputable def x43_23 : Mr := ⟨[.own 119 3, .int .i64 1, .int .i64 22], [(119, .row (il [1, 3, 4, 3, 16, 3]) 24 true)], .tup [.own 10748 3, .int .i64 0], [(10748, .row [.int .i64 2, .int .i64 1, .int .i64 1] 2 true)]⟩
noncomputable def x43_24 : Mr := ⟨[.own 119 3, .int .i64 1, .int .i64 23], [(119, .row (il [1, 3, 4, 3, 16, 3]) 24 true)], .tup [.own 10752 3, .int .i64 0], [(10752, .row [.int .i64 3, .int .i64 1, .int .i64 1] 2 true)]⟩
noncomputable def x43_25 : Mr := ⟨[.own 119 3, .int .i64 1, .int .i64 24], [(119, .row (il [1, 3, 4, 3, 16, 3]) 24 true)], .tup [.own 10744 3, .int .i64 0], [(10744, .row [.int .i64 0, .int .i64 2, .int .i64 1] 2 true)]⟩
noncomputable def x43_26 : Mr := ⟨[.own 119 3, .int .i64 1, .int .i64 25], [(119, .row (il [1, 3, 4, 3, 16, 3]) 24 true)], .tup [.own 10748 3, .int .i64 0], [(10748, .row [.int .i64 1, .int .i64 2, .int .i64 1] 2 true)]⟩
noncomputable def x43_27 : Mr := ⟨[.own 119 3, .int .i64 1, .int .i64 26], [(119, .row (il [1, 3, 4, 3, 16, 3]) 24 true)], .tup [.own 10752 3, .int .i64 0], [(10752, .row [.int .i64 2, .int .i64 2, .int .i64 1] 2 true)]⟩
noncomputable def x43_28 : Mr := ⟨[.own 119 3, .int .i64 1, .int .i64 27], [(119, .row (il [1, 3, 4, 3, 16, 3]) 24 true)], .tup [.own 10756 3, .int .i64 0], [(10756, .row [.int .i64 3, .int .i64 2, .int .i64 1] 2 true)]⟩
noncomputable def x43_29 : Mr := ⟨[.own 119 3, .int .i64 1, .int .i64 28], [(119, .row (il [1, 3, 4, 3, 16, 3]) 24 true)], .tup [.own 10748 3, .int .i64 0], [(10748, .row [.int .i64 0, .int .i64 3, .int .i64 1] 2 true)]⟩
noncomputable def x43_30 : Mr := ⟨[.own 119 3, .int .i64 1, .int .i64 29], [(119, .row (il [1, 3, 4, 3, 16, 3]) 24 true)], .tup [.own 10752 3, .int .i64 0], [(10752, .row [.int .i64 1, .int .i64 3, .int .i64 1] 2 true)]⟩
noncomputable def x43_31 : Mr := ⟨[.own 119 3, .int .i64 1, .int .i64 30], [(119, .row (il [1, 3, 4, 3, 16, 3]) 24 true)], .tup [.own 10756 3, .int .i64 0], [(10756, .row [.int .i64 2, .int .i64 3, .int .i64 1] 2 true)]⟩
noncomputable def x43_32 : Mr := ⟨[.own 119 3, .int .i64 1, .int .i64 31], [(119, .row (il [1, 3, 4, 3, 16, 3]) 24 true)], .tup [.own 10760 3, .int .i64 0], [(10760, .row [.int .i64 3, .int .i64 3, .int .i64 1] 2 true)]⟩
noncomputable def x43_33 : Mr := ⟨[.own 119 3, .int .i64 1, .int .i64 32], [(119, .row (il [1, 3, 4, 3, 16, 3]) 24 true)], .tup [.own 10740 3, .int .i64 0], [(10740, .row [.int .i64 0, .int .i64 0, .int .i64 2] 2 true)]⟩
noncomputable def x43_34 : Mr := ⟨[.own 119 3, .int .i64 1, .int .i64 33], [(119, .row (il [1, 3, 4, 3, 16, 3]) 24 true)], .tup [.own 10744 3, .int .i64 0], [(10744, .row [.int .i64 1, .int .i64 0, .int .i64 2] 2 true)]⟩
noncomputable def x43_35 : Mr := ⟨[.own 119 3, .int .i64 1, .int .i64 34], [(119, .row (il [1, 3, 4, 3, 16, 3]) 24 true)], .tup [.own 10748 3, .int .i64 0], [(10748, .row [.int .i64 2, .int .i64 0, .int .i64 2] 2 true)]⟩
noncomputable def x43_36 : Mr := ⟨[.own 119 3, .int .i64 1, .int .i64 35], [(119, .row (il [1, 3, 4, 3, 16, 3]) 24 true)], .tup [.own 10752 3, .int .i64 0], [(10752, .row [.int .i64 3, .int .i64 0, .int .i64 2] 2 true)]⟩
noncomputable def x43_37 : Mr := ⟨[.own 119 3, .int .i64 1, .int .i64 36], [(119, .row (il [1, 3, 4, 3, 16, 3]) 24 true)], .tup [.own 10744 3, .int .i64 0], [(10744, .row [.int .i64 0, .int .i64 1, .int .i64 2] 2 true)]⟩
noncomputable def x43_38 : Mr := ⟨[.own 119 3, .int .i64 1, .int .i64 37], [(119, .row (il [1, 3, 4, 3, 16, 3]) 24 true)], .tup [.own 10748 3, .int .i64 0], [(10748, .row [.int .i64 1, .int .i64 1, .int .i64 2] 2 true)]⟩
noncomputable def x43_39 : Mr := ⟨[.own 119 3, .int .i64 1, .int .i64 38], [(119, .row (il [1, 3, 4, 3, 16, 3]) 24 true)], .tup [.own 10752 3, .int .i64 0], [(10752, .row [.int .i64 2, .int .i64 1, .int .i64 2] 2 true)]⟩
noncomputable def x43_40 : Mr := ⟨[.own 119 3, .int .i64 1, .int .i64 39], [(119, .row (il [1, 3, 4, 3, 16, 3]) 24 true)], .tup [.own 10756 3, .int .i64 0], [(10756, .row [.int .i64 3, .int .i64 1, .int .i64 2] 2 true)]⟩
noncomputable def x43_41 : Mr := ⟨[.own 119 3, .int .i64 1, .int .i64 40], [(119, .row (il [1, 3, 4, 3, 16, 3]) 24 true)], .tup [.own 10748 3, .int .i64 0], [(10748, .row [.int .i64 0, .int .i64 2, .int .i64 2] 2 true)]⟩
noncomputable def x43_42 : Mr := ⟨[.own 119 3, .int .i64 1, .int .i64 41], [(119, .row (il [1, 3, 4, 3, 16, 3]) 24 true)], .tup [.own 10752 3, .int .i64 0], [(10752, .row [.int .i64 1, .int .i64 2, .int .i64 2] 2 true)]⟩
noncomputable def x43_43 : Mr := ⟨[.own 119 3, .int .i64 1, .int .i64 42], [(119, .row (il [1, 3, 4, 3, 16, 3]) 24 true)], .tup [.own 10756 3, .int .i64 0], [(10756, .row [.int .i64 2, .int .i64 2, .int .i64 2] 2 true)]⟩
noncomputable def x43_44 : Mr := ⟨[.own 119 3, .int .i64 1, .int .i64 43], [(119, .row (il [1, 3, 4, 3, 16, 3]) 24 true)], .tup [.own 10760 3, .int .i64 0], [(10760, .row [.int .i64 3, .int .i64 2, .int .i64 2] 2 true)]⟩
noncomputable def x43_45 : Mr := ⟨[.own 119 3, .int .i64 1, .int .i64 44], [(119, .row (il [1, 3, 4, 3, 16, 3]) 24 true)], .tup [.own 10752 3, .int .i64 0], [(10752, .row [.int .i64 0, .int .i64 3, .int .i64 2] 2 true)]⟩
noncomputable def x43_46 : Mr := ⟨[.own 119 3, .int .i64 1, .int .i64 45], [(119, .row (il [1, 3, 4, 3, 16, 3]) 24 true)], .tup [.own 10756 3, .int .i64 0], [(10756, .row [.int .i64 1, .int .i64 3, .int .i64 2] 2 true)]⟩
noncomputable def x43_47 : Mr := ⟨[.own 119 3, .int .i64 1, .int .i64 46], [(119, .row (il [1, 3, 4, 3, 16, 3]) 24 true)], .tup [.own 10760 3, .int .i64 0], [(10760, .row [.int .i64 2, .int .i64 3, .int .i64 2] 2 true)]⟩
noncomputable def x43_48 : Mr := ⟨[.own 119 3, .int .i64 1, .int .i64 47], [(119, .row (il [1, 3, 4, 3, 16, 3]) 24 true)], .tup [.own 10764 3, .int .i64 0], [(10764, .row [.int .i64 3, .int .i64 3, .int .i64 2] 2 true)]⟩
noncomputable def x43_49 : Mr := ⟨[.own 119 3, .int .i64 1, .int .i64 48], [(119, .row (il [1, 3, 4, 3, 16, 3]) 24 true)], .tup [.own 10744 3, .int .i64 0], [(10744, .row [.int .i64 0, .int .i64 0, .int .i64 3] 2 true)]⟩
noncomputable def x43_50 : Mr := ⟨[.own 119 3, .int .i64 1, .int .i64 49], [(119, .row (il [1, 3, 4, 3, 16, 3]) 24 true)], .tup [.own 10748 3, .int .i64 0], [(10748, .row [.int .i64 1, .int .i64 0, .int .i64 3] 2 true)]⟩
noncomputable def x43_51 : Mr := ⟨[.own 119 3, .int .i64 1, .int .i64 50], [(119, .row (il [1, 3, 4, 3, 16, 3]) 24 true)], .tup [.own 10752 3, .int .i64 0], [(10752, .row [.int .i64 2, .int .i64 0, .int .i64 3] 2 true)]⟩
noncomputable def x43_52 : Mr := ⟨[.own 119 3, .int .i64 1, .int .i64 51], [(119, .row (il [1, 3, 4, 3, 16, 3]) 24 true)], .tup [.own 10756 3, .int .i64 0], [(10756, .row [.int .i64 3, .int .i64 0, .int .i64 3] 2 true)]⟩
noncomputable def x43_53 : Mr := ⟨[.own 119 3, .int .i64 1, .int .i64 52], [(119, .row (il [1, 3, 4, 3, 16, 3]) 24 true)], .tup [.own 10748 3, .int .i64 0], [(10748, .row [.int .i64 0, .int .i64 1, .int .i64 3] 2 true)]⟩
noncomputable def x43_54 : Mr := ⟨[.own 119 3, .int .i64 1, .int .i64 53], [(119, .row (il [1, 3, 4, 3, 16, 3]) 24 true)], .tup [.own 10752 3, .int .i64 0], [(10752, .row [.int .i64 1, .int .i64 1, .int .i64 3] 2 true)]⟩
noncomputable def x43_55 : Mr := ⟨[.own 119 3, .int .i64 1, .int .i64 54], [(119, .row (il [1, 3, 4, 3, 16, 3]) 24 true)], .tup [.own 10756 3, .int .i64 0], [(10756, .row [.int .i64 2, .int .i64 1, .int .i64 3] 2 true)]⟩
noncomputable def x43_56 : Mr := ⟨[.own 119 3, .int .i64 1, .int .i64 55], [(119, .row (il [1, 3, 4, 3, 16, 3]) 24 true)], .tup [.own 10760 3, .int .i64 0], [(10760, .row [.int .i64 3, .int .i64 1, .int .i64 3] 2 true)]⟩
noncomputable def x43_57 : Mr := ⟨[.own 119 3, .int .i64 1, .int .i64 56], [(119, .row (il [1, 3, 4, 3, 16, 3]) 24 true)], .tup [.own 10752 3, .int .i64 0], [(10752, .row [.int .i64 0, .int .i64 2, .int .i64 3] 2 true)]⟩
noncomputable def x43_58 : Mr := ⟨[.own 119 3, .int .i64 1, .int .i64 57], [(119, .row (il [1, 3, 4, 3, 16, 3]) 24 true)], .tup [.own 10756 3, .int .i64 0], [(10756, .row [.int .i64 1, .int .i64 2, .int .i64 3] 2 true)]⟩
noncomputable def x43_59 : Mr := ⟨[.own 119 3, .int .i64 1, .int .i64 58], [(119, .row (il [1, 3, 4, 3, 16, 3]) 24 true)], .tup [.own 10760 3, .int .i64 0], [(10760, .row [.int .i64 2, .int .i64 2, .int .i64 3] 2 true)]⟩
noncomputable def x43_60 : Mr := ⟨[.own 119 3, .int .i64 1, .int .i64 59], [(119, .row (il [1, 3, 4, 3, 16, 3]) 24 true)], .tup [.own 10764 3, .int .i64 0], [(10764, .row [.int .i64 3, .int .i64 2, .int .i64 3] 2 true)]⟩
noncomputable def x43_61 : Mr := ⟨[.own 119 3, .int .i64 1, .int .i64 60], [(119, .row (il [1, 3, 4, 3, 16, 3]) 24 true)], .tup [.own 10756 3, .int .i64 0], [(10756, .row [.int .i64 0, .int .i64 3, .int .i64 3] 2 true)]⟩
noncomputable def x43_62 : Mr := ⟨[.own 119 3, .int .i64 1, .int .i64 61], [(119, .row (il [1, 3, 4, 3, 16, 3]) 24 true)], .tup [.own 10760 3, .int .i64 0], [(10760, .row [.int .i64 1, .int .i64 3, .int .i64 3] 2 true)]⟩
noncomputable def x43_63 : Mr := ⟨[.own 119 3, .int .i64 1, .int .i64 62], [(119, .row (il [1, 3, 4, 3, 16, 3]) 24 true)], .tup [.own 10764 3, .int .i64 0], [(10764, .row [.int .i64 2, .int .i64 3, .int .i64 3] 2 true)]⟩
noncomputable def x43_64 : Mr := ⟨[.own 119 3, .int .i64 1, .int .i64 63], [(119, .row (il [1, 3, 4, 3, 16, 3]) 24 true)], .tup [.own 10768 3, .int .i64 0], [(10768, .row [.int .i64 3, .int .i64 3, .int .i64 3] 2 true)]⟩
noncomputable def m5_43 : List Mr := [x43_0]
noncomputable def m8_43 : List Mr := [x43_1, x43_2, x43_3, x43_4, x43_5, x43_6, x43_7, x43_8, x43_9, x43_10, x43_11, x43_12, x43_13, x43_14, x43_15, x43_16, x43_17, x43_18, x43_19, x43_20, x43_21, x43_22, x43_23, x43_24, x43_25, x43_26, x43_27, x43_28, x43_29, x43_30, x43_31, x43_32, x43_33, x43_34, x43_35, x43_36, x43_37, x43_38, x43_39, x43_40, x43_41, x43_42, x43_43, x43_44, x43_45, x43_46, x43_47, x43_48, x43_49, x43_50, x43_51, x43_52, x43_53, x43_54, x43_55, x43_56, x43_57, x43_58, x43_59, x43_60, x43_61, x43_62, x43_63, x43_64]
noncomputable def p43 : Pr := withM Pt.pr (memsOf [(10, flatM memT), (5, memR 10000 m5_43), (8, memR 10000 m8_43)])
def Q43 (r : Nat) : Prop := lastB p43 1000000 M Pt.ff4.res ((segs Pt.ff4.body).drop 10) (E43 r) [] S43 = true
end Go.Proofs.YtmpfljfffljoeaaGreatDoor.R4
