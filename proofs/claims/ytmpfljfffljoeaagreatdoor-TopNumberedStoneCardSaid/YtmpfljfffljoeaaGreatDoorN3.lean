/- The statement on orders and weights: its function in pieces. No condition. -/
import Derived.Test.YtmpfljfffljoeaaGreatDoorRunM
import Derived.Test.YtmpfljfffljoeaaGreatDoorPr
namespace Go.Proofs.YtmpfljfffljoeaaGreatDoor.N3
open Go Go.Proofs Go.Run Go.Eng
set_option maxRecDepth 100000
set_option linter.unusedVariables false
set_option linter.unusedSimpArgs false

@[reducible] noncomputable def M : Fm := ⟨depthOf Pt.ff3.nt, Pt.ff3.nt⟩
noncomputable def p1 : Pr := withM Pt.pr (memsOf [(10, flatM memT)])
noncomputable def O0 : List Oper := [⟨some 4, .assign (.const (.bool false)), 4, "top10.go:17", #[], none⟩]
noncomputable def O1 : List Oper := [⟨some 25, .move (.tmp 0), 5, "top10.go:18", #[], none⟩, ⟨some 26, .convert 5 3 (.tmp 25), 3, "top10.go:18", #[⟨0, .data⟩], none⟩, ⟨some 27, .binOp .rem 3 (.tmp 26) (.const (.int .i64 4)) 3, 3, "top10.go:18", #[⟨1, .data⟩], none⟩, ⟨some 28, .binOp .add 3 (.const (.int .i64 2)) (.tmp 27) 3, 3, "top10.go:18", #[⟨2, .data⟩], none⟩, ⟨some 5, .assign (.tmp 28), 3, "top10.go:18", #[⟨3, .data⟩, ⟨0, .phase⟩, ⟨1, .phase⟩, ⟨2, .phase⟩, ⟨3, .phase⟩], none⟩]
noncomputable def O7 : List Oper := [⟨some 49, .move (.tmp 1), 5, "top10.go:26", #[], none⟩, ⟨some 50, .convert 5 2 (.tmp 49), 2, "top10.go:26", #[⟨0, .data⟩], none⟩, ⟨some 51, .move (.tmp 7), 2, "top10.go:26", #[], none⟩, ⟨some 52, .binOp .rem 2 (.tmp 50) (.tmp 51) 2, 2, "top10.go:26", #[⟨1, .data⟩, ⟨2, .data⟩], none⟩, ⟨some 11, .assign (.tmp 52), 2, "top10.go:26", #[⟨3, .data⟩, ⟨0, .phase⟩, ⟨1, .phase⟩, ⟨2, .phase⟩, ⟨3, .phase⟩], none⟩]
theorem sA : segs Pt.ff3.body = .region 0 O0.toArray false :: .region 1 O1.toArray false :: (segs Pt.ff3.body).drop 2 := by kernel_rfl
theorem sB : (segs Pt.ff3.body).drop 7 = .region 10 O7.toArray false :: (segs Pt.ff3.body).drop 8 := by kernel_rfl
theorem in64 {z : Int} (h0 : -1000 ≤ z) (h1 : z ≤ 1000) : InK .i64 z := by
  have a : IntKind.i64.min = -9223372036854775808 := by decide
  have b : IntKind.i64.max = 9223372036854775807 := by decide
  exact ⟨by omega, by omega⟩
theorem hand0 (a : Int) (h0 : 0 ≤ a) (h1 : a < 256) {K : Cont} {er : Env} {dr : List Deferred} {h : Heap} (hl : er.length = 161) (ha : er.getD 0 undef = .int .u8 a)
   (H : WPs none Tryz.prog ((segs Pt.ff3.body).drop 2) K ((((((er.set 4 (.bool false)).set 25 (.int .u8 a)).set 26 (.int .i64 a)).set 27 (.int .i64 (a % 4))).set 28 (.int .i64 (2 + a % 4))).set 5 (.int .i64 (2 + a % 4))) dr h) : WPs none Tryz.prog (segs Pt.ff3.body) K er dr h := by
  rw [sA]
  refine WPs_region ?_
  unfold O0
  have u3 : Tryz.prog.underlying 3 = some (.int .i64) := by kernel_rfl
  have u5 : Tryz.prog.underlying 5 = some (.int .u8) := by kernel_rfl
  simp only [coreS]
  show WPs none Tryz.prog (Code.region 1 O1.toArray false :: List.drop 2 (segs Pt.ff3.body)) K (er.set 4 (.bool false)) dr h
  refine WPs_region ?_
  unfold O1
  simp only [coreS, getD_setL, List.length_set, hl, ha, u3, u5, true_and, Nat.reduceLT, Nat.reduceEqDiff, false_and]
  have e1 : a.tmod 4 = a % 4 := Int.tmod_eq_emod_of_nonneg h0
  refine ⟨in64 (by omega) (by omega), by decide, in64 (by omega) (by omega), ?_⟩
  rw [e1]
  exact H
theorem hand7 (b w : Int) (h0 : 0 ≤ b) (h1 : b < 256) (hw : 0 < w) (hw2 : w ≤ 120) {K : Cont} {er : Env} {dr : List Deferred} {h : Heap} (hl : er.length = 161) (hb : er.getD 1 undef = .int .u8 b) (h7 : er.getD 7 undef = .int .i64 w)
   (H : WPs none Tryz.prog ((segs Pt.ff3.body).drop 8) K (((((er.set 49 (.int .u8 b)).set 50 (.int .i64 b)).set 51 (.int .i64 w)).set 52 (.int .i64 (b % w))).set 11 (.int .i64 (b % w))) dr h) : WPs none Tryz.prog ((segs Pt.ff3.body).drop 7) K er dr h := by
  rw [sB]
  refine WPs_region ?_
  unfold O7
  have u2 : Tryz.prog.underlying 2 = some (.int .i64) := by kernel_rfl
  have u5 : Tryz.prog.underlying 5 = some (.int .u8) := by kernel_rfl
  simp only [coreS, getD_setL, List.length_set, hl, hb, h7, u2, u5, true_and, Nat.reduceLT, Nat.reduceEqDiff, false_and]
  have e1 : b.tmod w = b % w := Int.tmod_eq_emod_of_nonneg h0
  refine ⟨in64 (by omega) (by omega), by omega, ?_⟩
  rw [e1]
  exact H
/-- The frame behind the first two statements. -/
noncomputable def B (a b n : Int) : E := En.set (Pa.of M.dp 5) (.int .i64 n) (En.set (Pa.of M.dp 28) .any (En.set (Pa.of M.dp 27) .any (En.set (Pa.of M.dp 26) .any (En.set (Pa.of M.dp 25) .any (En.set (Pa.of M.dp 4) (.bool false) (fillE M [.int .u8 a, .int .u8 b] 0 (.leaf undefT) id))))))
/-- What is known of a frame may be kept of some slots alone. -/
theorem keep {P : Program} {m : Fm} {e : E} {d : List Nat} {s : S} {h0 h : Heap} {er : Env} {dr : List Deferred} (G : Run.Good P m e d s h0 er dr h) (ks : List Nat) : Run.Good P m (keepQ m ks e (.leaf .any)) d s h0 er dr h := by
  obtain ⟨ι, re, r⟩ := G
  exact ⟨ι, keepQ_RE re ks _ ⟨re.len, re.fit, fun i hi => by rw [En.get_leaf]; simp [VR]⟩, r⟩
theorem nil {Q : Nat → Prop} : ∀ r, r < 0 → Q r := fun _ h => absurd h (Nat.not_lt_zero _)
theorem st {Q : Nat → Prop} {k : Nat} (h : ∀ r, r < k → Q r) (t : Q k) : ∀ r, r < k + 1 → Q r := fun r hr => by
  rcases Nat.lt_succ_iff_lt_or_eq.1 hr with h1 | rfl
  · exact h r h1
  · exact t
noncomputable def S2 : S := ⟨fromV [(1, .row [.int .i64 1, .int .i64 1] 24 true)] (.leaf none), 34, 10⟩
noncomputable def C2 (b : Int) : E := fromE M [(1, .int .u8 b), (4, .bool false), (5, .int .i64 2), (6, .own 1 1), (7, .int .i64 2), (9, .int .i64 1), (10, .int .i64 0)] (.leaf .any)
noncomputable def E2 (r : Nat) : E := fromE M [(4, .bool false), (5, .int .i64 2), (6, .own 1 1), (7, .int .i64 2), (9, .int .i64 1), (10, .int .i64 0), (11, .int .i64 (.ofNat r))] (.leaf .any)
def Q2 (r : Nat) : Prop := lastB p1 1000000 M Pt.ff3.res ((segs Pt.ff3.body).drop 8) (E2 r) [] S2 = true
noncomputable def S3 : S := ⟨fromV [(3, .row [.int .i64 1, .int .i64 1, .int .i64 2, .int .i64 2] 24 true)] (.leaf none), 69, 1⟩
noncomputable def C3 (b : Int) : E := fromE M [(1, .int .u8 b), (4, .bool false), (5, .int .i64 3), (6, .own 3 2), (7, .int .i64 6), (9, .int .i64 5), (10, .int .i64 0)] (.leaf .any)
noncomputable def E3 (r : Nat) : E := fromE M [(4, .bool false), (5, .int .i64 3), (6, .own 3 2), (7, .int .i64 6), (9, .int .i64 5), (10, .int .i64 0), (11, .int .i64 (.ofNat r))] (.leaf .any)
def Q3 (r : Nat) : Prop := lastB p1 1000000 M Pt.ff3.res ((segs Pt.ff3.body).drop 8) (E3 r) [] S3 = true
noncomputable def S4 : S := ⟨fromV [(5, .row [.int .i64 1, .int .i64 1, .int .i64 2, .int .i64 2, .int .i64 6, .int .i64 3] 24 true)] (.leaf none), 158, 1⟩
noncomputable def C4 (b : Int) : E := fromE M [(1, .int .u8 b), (4, .bool false), (5, .int .i64 4), (6, .own 5 3), (7, .int .i64 24), (9, .int .i64 23), (10, .int .i64 0)] (.leaf .any)
noncomputable def E4 (r : Nat) : E := fromE M [(4, .bool false), (5, .int .i64 4), (6, .own 5 3), (7, .int .i64 24), (9, .int .i64 23), (10, .int .i64 0), (11, .int .i64 (.ofNat r))] (.leaf .any)
def Q4 (r : Nat) : Prop := lastB p1 1000000 M Pt.ff3.res ((segs Pt.ff3.body).drop 8) (E4 r) [] S4 = true
noncomputable def S5 : S := ⟨fromV [(7, .row [.int .i64 1, .int .i64 1, .int .i64 2, .int .i64 2, .int .i64 6, .int .i64 3, .int .i64 24, .int .i64 4] 24 true)] (.leaf none), 41, 1⟩
noncomputable def C5 (b : Int) : E := fromE M [(1, .int .u8 b), (4, .bool false), (5, .int .i64 5), (6, .own 7 4), (7, .int .i64 120), (9, .int .i64 119), (10, .int .i64 0)] (.leaf .any)
noncomputable def E5 (r : Nat) : E := fromE M [(4, .bool false), (5, .int .i64 5), (6, .own 7 4), (7, .int .i64 120), (9, .int .i64 119), (10, .int .i64 0), (11, .int .i64 (.ofNat r))] (.leaf .any)
def Q5 (r : Nat) : Prop := lastB p1 1000000 M Pt.ff3.res ((segs Pt.ff3.body).drop 8) (E5 r) [] S5 = true
end Go.Proofs.YtmpfljfffljoeaaGreatDoor.N3
