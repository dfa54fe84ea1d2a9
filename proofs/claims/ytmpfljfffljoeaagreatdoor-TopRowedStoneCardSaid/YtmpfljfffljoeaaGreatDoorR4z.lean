/- The statement on rims and weights. No condition. -/
import Derived.Test.YtmpfljfffljoeaaGreatDoorR4
import Derived.Test.YtmpfljfffljoeaaGreatDoorR4a
import Derived.Test.YtmpfljfffljoeaaGreatDoorR4b
import Derived.Test.YtmpfljfffljoeaaGreatDoorR4c
import Derived.Test.YtmpfljfffljoeaaGreatDoorR4d
import Derived.Test.YtmpfljfffljoeaaGreatDoorR4e
import Derived.Test.YtmpfljfffljoeaaGreatDoorR4P
import Derived.Test.YtmpfljfffljoeaaGreatDoorR4Q
import Derived.Test.YtmpfljfffljoeaaGreatDoorR4R
import Derived.Test.YtmpfljfffljoeaaGreatDoorWs
namespace Go.Proofs.YtmpfljfffljoeaaGreatDoor.R4
open Go Go.Proofs Go.Run Go.Eng
set_option maxRecDepth 100000
set_option linter.unusedVariables false
set_option linter.unusedSimpArgs false
theorem cm {α : Type} {p : α → Prop} {x : α} {l : List α} (h : p x) (t : ∀ y ∈ l, p y) : ∀ y ∈ x :: l, p y := List.forall_mem_cons.2 ⟨h, t⟩
theorem cn {α : Type} {p : α → Prop} : ∀ y ∈ ([] : List α), p y := fun _ h => (List.not_mem_nil h).elim

theorem ok21 : Ok Tryz.prog p21 := withM_ok Pt.ok _
theorem n5_21 : ∀ x ∈ m5_21, mrB Pt.pr 1000000 5 10000 x = true := cm e21_0 (cn)
theorem n8_21 : ∀ x ∈ m8_21, mrB Pt.pr 1000000 8 10000 x = true := cm e21_1 (cm e21_2 (cn))
theorem lb21 : LibOk Tryz.prog p21 := memsOf_lb Pt.lb [(10, flatM memT), (5, memR 10000 m5_21), (8, memR 10000 m8_21)] (List.forall_mem_cons.2 ⟨flatM_ok (memT_sound Ws.works10), List.forall_mem_cons.2 ⟨memR_sound Pt.ok Pt.lb _ n5_21, List.forall_mem_cons.2 ⟨memR_sound Pt.ok Pt.lb _ n8_21, fun _ h => (List.not_mem_nil h).elim⟩⟩⟩)
theorem all21 : ∀ r, r < 2 → Q21 r := st (st (nil) t21_0) t21_1
theorem g21 (a b c : Int) : segP Pt.pr 1000000 M (((segs Pt.ff4.body).drop 2).take 7) [6, 7, 8, 9, 10, 11, 12] [2] [18, 21] (B a b c 2 1) [] s0 = some (C21 c, [], S21) := by kernel_rfl
theorem k21 (c : Int) (r : Nat) : keepQ M [6, 7, 8, 9, 10, 11, 12, 14] (En.set (Pa.of M.dp 14) (.int .i64 (.ofNat r)) (En.set (Pa.of M.dp 68) .any (En.set (Pa.of M.dp 67) .any (En.set (Pa.of M.dp 66) .any (En.set (Pa.of M.dp 65) .any (En.set (Pa.of M.dp 64) .any (C21 c))))))) (.leaf .any) = E21 r := by kernel_rfl
theorem from21 (a b c : Int) (h0 : 0 ≤ c) (h1 : c < 256) {er : Env} {dr : List Deferred} {h h0' : Heap} (G : Run.Good Tryz.prog M (B a b c 2 1) [] s0 h0' er dr h)
    : WPs none Tryz.prog ((segs Pt.ff4.body).drop 2) (retK Tryz.prog Pt.ff4.res (fun v h' => v = .bool true ∧ Ext h0' h')) er dr h := by
  refine good_segP Pt.ok Pt.lb (k := 7) (g21 a b c) G fun er' dr' h2 G2 => ?_
  rw [List.drop_drop]
  have hl : er'.length = 171 := G2.len.trans (by kernel_rfl)
  have h1b : er'.getD 2 undef = .int .u8 c := G2.int (t := 2) (by decide +kernel) (by kernel_rfl)
  obtain ⟨ad, cp, h9⟩ := sliceAt G2 (t := 9) (b := 18) (o := 0) (L := 2) (c := 0) (by decide +kernel) (.inr (by kernel_rfl))
  refine hand9 c 2 h0 h1 (by decide) (by decide) rfl hl h1b h9 ?_
  obtain ⟨r, hr⟩ : ∃ r : Nat, c % 2 = (r : Int) := ⟨(c % 2).toNat, by omega⟩
  have hlt : r < 2 := by omega
  rw [hr]
  have G3 := (((((G2.putA (q := 64) (u := .int .u8 c) (by decide +kernel)).putA (q := 65) (u := .int .i64 c) (by decide +kernel)).putA (q := 66) (u := .slice ad 2 cp) (by decide +kernel)).putA (q := 67) (u := .int .i64 2) (by decide +kernel)).putA (q := 68) (u := .int .i64 (r : Int)) (by decide +kernel)).putI (q := 14) (k := .i64) (z := (r : Int)) (by decide +kernel)
  have G4 := keep G3 [6, 7, 8, 9, 10, 11, 12, 14]
  rw [show ((r : Int)) = Int.ofNat r from rfl, k21 c r] at G4
  exact good_last ok21 lb21 (all21 r hlt) G4
theorem ok22 : Ok Tryz.prog p22 := withM_ok Pt.ok _
theorem n5_22 : ∀ x ∈ m5_22, mrB Pt.pr 1000000 5 10000 x = true := cm e22_0 (cn)
theorem n8_22 : ∀ x ∈ m8_22, mrB Pt.pr 1000000 8 10000 x = true := cm e22_1 (cm e22_2 (cm e22_3 (cm e22_4 (cn))))
theorem lb22 : LibOk Tryz.prog p22 := memsOf_lb Pt.lb [(10, flatM memT), (5, memR 10000 m5_22), (8, memR 10000 m8_22)] (List.forall_mem_cons.2 ⟨flatM_ok (memT_sound Ws.works10), List.forall_mem_cons.2 ⟨memR_sound Pt.ok Pt.lb _ n5_22, List.forall_mem_cons.2 ⟨memR_sound Pt.ok Pt.lb _ n8_22, fun _ h => (List.not_mem_nil h).elim⟩⟩⟩)
theorem all22 : ∀ r, r < 4 → Q22 r := st (st (st (st (nil) t22_0) t22_1) t22_2) t22_3
theorem g22 (a b c : Int) : segP Pt.pr 1000000 M (((segs Pt.ff4.body).drop 2).take 7) [6, 7, 8, 9, 10, 11, 12] [2] [23, 29] (B a b c 2 2) [] s0 = some (C22 c, [], S22) := by kernel_rfl
theorem k22 (c : Int) (r : Nat) : keepQ M [6, 7, 8, 9, 10, 11, 12, 14] (En.set (Pa.of M.dp 14) (.int .i64 (.ofNat r)) (En.set (Pa.of M.dp 68) .any (En.set (Pa.of M.dp 67) .any (En.set (Pa.of M.dp 66) .any (En.set (Pa.of M.dp 65) .any (En.set (Pa.of M.dp 64) .any (C22 c))))))) (.leaf .any) = E22 r := by kernel_rfl
theorem from22 (a b c : Int) (h0 : 0 ≤ c) (h1 : c < 256) {er : Env} {dr : List Deferred} {h h0' : Heap} (G : Run.Good Tryz.prog M (B a b c 2 2) [] s0 h0' er dr h)
    : WPs none Tryz.prog ((segs Pt.ff4.body).drop 2) (retK Tryz.prog Pt.ff4.res (fun v h' => v = .bool true ∧ Ext h0' h')) er dr h := by
  refine good_segP Pt.ok Pt.lb (k := 7) (g22 a b c) G fun er' dr' h2 G2 => ?_
  rw [List.drop_drop]
  have hl : er'.length = 171 := G2.len.trans (by kernel_rfl)
  have h1b : er'.getD 2 undef = .int .u8 c := G2.int (t := 2) (by decide +kernel) (by kernel_rfl)
  obtain ⟨ad, cp, h9⟩ := sliceAt G2 (t := 9) (b := 23) (o := 0) (L := 4) (c := 0) (by decide +kernel) (.inr (by kernel_rfl))
  refine hand9 c 4 h0 h1 (by decide) (by decide) rfl hl h1b h9 ?_
  obtain ⟨r, hr⟩ : ∃ r : Nat, c % 4 = (r : Int) := ⟨(c % 4).toNat, by omega⟩
  have hlt : r < 4 := by omega
  rw [hr]
  have G3 := (((((G2.putA (q := 64) (u := .int .u8 c) (by decide +kernel)).putA (q := 65) (u := .int .i64 c) (by decide +kernel)).putA (q := 66) (u := .slice ad 4 cp) (by decide +kernel)).putA (q := 67) (u := .int .i64 4) (by decide +kernel)).putA (q := 68) (u := .int .i64 (r : Int)) (by decide +kernel)).putI (q := 14) (k := .i64) (z := (r : Int)) (by decide +kernel)
  have G4 := keep G3 [6, 7, 8, 9, 10, 11, 12, 14]
  rw [show ((r : Int)) = Int.ofNat r from rfl, k22 c r] at G4
  exact good_last ok22 lb22 (all22 r hlt) G4
theorem ok23 : Ok Tryz.prog p23 := withM_ok Pt.ok _
theorem n5_23 : ∀ x ∈ m5_23, mrB Pt.pr 1000000 5 10000 x = true := cm e23_0 (cn)
theorem n8_23 : ∀ x ∈ m8_23, mrB Pt.pr 1000000 8 10000 x = true := cm e23_1 (cm e23_2 (cm e23_3 (cm e23_4 (cm e23_5 (cm e23_6 (cm e23_7 (cm e23_8 (cn))))))))
theorem lb23 : LibOk Tryz.prog p23 := memsOf_lb Pt.lb [(10, flatM memT), (5, memR 10000 m5_23), (8, memR 10000 m8_23)] (List.forall_mem_cons.2 ⟨flatM_ok (memT_sound Ws.works10), List.forall_mem_cons.2 ⟨memR_sound Pt.ok Pt.lb _ n5_23, List.forall_mem_cons.2 ⟨memR_sound Pt.ok Pt.lb _ n8_23, fun _ h => (List.not_mem_nil h).elim⟩⟩⟩)
theorem all23 : ∀ r, r < 8 → Q23 r := st (st (st (st (st (st (st (st (nil) t23_0) t23_1) t23_2) t23_3) t23_4) t23_5) t23_6) t23_7
theorem g23 (a b c : Int) : segP Pt.pr 1000000 M (((segs Pt.ff4.body).drop 2).take 7) [6, 7, 8, 9, 10, 11, 12] [2] [31, 40] (B a b c 2 3) [] s0 = some (C23 c, [], S23) := by kernel_rfl
theorem k23 (c : Int) (r : Nat) : keepQ M [6, 7, 8, 9, 10, 11, 12, 14] (En.set (Pa.of M.dp 14) (.int .i64 (.ofNat r)) (En.set (Pa.of M.dp 68) .any (En.set (Pa.of M.dp 67) .any (En.set (Pa.of M.dp 66) .any (En.set (Pa.of M.dp 65) .any (En.set (Pa.of M.dp 64) .any (C23 c))))))) (.leaf .any) = E23 r := by kernel_rfl
theorem from23 (a b c : Int) (h0 : 0 ≤ c) (h1 : c < 256) {er : Env} {dr : List Deferred} {h h0' : Heap} (G : Run.Good Tryz.prog M (B a b c 2 3) [] s0 h0' er dr h)
    : WPs none Tryz.prog ((segs Pt.ff4.body).drop 2) (retK Tryz.prog Pt.ff4.res (fun v h' => v = .bool true ∧ Ext h0' h')) er dr h := by
  refine good_segP Pt.ok Pt.lb (k := 7) (g23 a b c) G fun er' dr' h2 G2 => ?_
  rw [List.drop_drop]
  have hl : er'.length = 171 := G2.len.trans (by kernel_rfl)
  have h1b : er'.getD 2 undef = .int .u8 c := G2.int (t := 2) (by decide +kernel) (by kernel_rfl)
  obtain ⟨ad, cp, h9⟩ := sliceAt G2 (t := 9) (b := 31) (o := 0) (L := 8) (c := 0) (by decide +kernel) (.inr (by kernel_rfl))
  refine hand9 c 8 h0 h1 (by decide) (by decide) rfl hl h1b h9 ?_
  obtain ⟨r, hr⟩ : ∃ r : Nat, c % 8 = (r : Int) := ⟨(c % 8).toNat, by omega⟩
  have hlt : r < 8 := by omega
  rw [hr]
  have G3 := (((((G2.putA (q := 64) (u := .int .u8 c) (by decide +kernel)).putA (q := 65) (u := .int .i64 c) (by decide +kernel)).putA (q := 66) (u := .slice ad 8 cp) (by decide +kernel)).putA (q := 67) (u := .int .i64 8) (by decide +kernel)).putA (q := 68) (u := .int .i64 (r : Int)) (by decide +kernel)).putI (q := 14) (k := .i64) (z := (r : Int)) (by decide +kernel)
  have G4 := keep G3 [6, 7, 8, 9, 10, 11, 12, 14]
  rw [show ((r : Int)) = Int.ofNat r from rfl, k23 c r] at G4
  exact good_last ok23 lb23 (all23 r hlt) G4
theorem ok31 : Ok Tryz.prog p31 := withM_ok Pt.ok _
theorem n5_31 : ∀ x ∈ m5_31, mrB Pt.pr 1000000 5 10000 x = true := cm e31_0 (cn)
theorem n8_31 : ∀ x ∈ m8_31, mrB Pt.pr 1000000 8 10000 x = true := cm e31_1 (cm e31_2 (cm e31_3 (cn)))
theorem lb31 : LibOk Tryz.prog p31 := memsOf_lb Pt.lb [(10, flatM memT), (5, memR 10000 m5_31), (8, memR 10000 m8_31)] (List.forall_mem_cons.2 ⟨flatM_ok (memT_sound Ws.works10), List.forall_mem_cons.2 ⟨memR_sound Pt.ok Pt.lb _ n5_31, List.forall_mem_cons.2 ⟨memR_sound Pt.ok Pt.lb _ n8_31, fun _ h => (List.not_mem_nil h).elim⟩⟩⟩)
theorem all31 : ∀ r, r < 3 → Q31 r := st (st (st (nil) t31_0) t31_1) t31_2
theorem g31 (a b c : Int) : segP Pt.pr 1000000 M (((segs Pt.ff4.body).drop 2).take 7) [6, 7, 8, 9, 10, 11, 12] [2] [21, 24] (B a b c 3 1) [] s0 = some (C31 c, [], S31) := by kernel_rfl
theorem k31 (c : Int) (r : Nat) : keepQ M [6, 7, 8, 9, 10, 11, 12, 14] (En.set (Pa.of M.dp 14) (.int .i64 (.ofNat r)) (En.set (Pa.of M.dp 68) .any (En.set (Pa.of M.dp 67) .any (En.set (Pa.of M.dp 66) .any (En.set (Pa.of M.dp 65) .any (En.set (Pa.of M.dp 64) .any (C31 c))))))) (.leaf .any) = E31 r := by kernel_rfl
theorem from31 (a b c : Int) (h0 : 0 ≤ c) (h1 : c < 256) {er : Env} {dr : List Deferred} {h h0' : Heap} (G : Run.Good Tryz.prog M (B a b c 3 1) [] s0 h0' er dr h)
    : WPs none Tryz.prog ((segs Pt.ff4.body).drop 2) (retK Tryz.prog Pt.ff4.res (fun v h' => v = .bool true ∧ Ext h0' h')) er dr h := by
  refine good_segP Pt.ok Pt.lb (k := 7) (g31 a b c) G fun er' dr' h2 G2 => ?_
  rw [List.drop_drop]
  have hl : er'.length = 171 := G2.len.trans (by kernel_rfl)
  have h1b : er'.getD 2 undef = .int .u8 c := G2.int (t := 2) (by decide +kernel) (by kernel_rfl)
  obtain ⟨ad, cp, h9⟩ := sliceAt G2 (t := 9) (b := 21) (o := 0) (L := 3) (c := 0) (by decide +kernel) (.inr (by kernel_rfl))
  refine hand9 c 3 h0 h1 (by decide) (by decide) rfl hl h1b h9 ?_
  obtain ⟨r, hr⟩ : ∃ r : Nat, c % 3 = (r : Int) := ⟨(c % 3).toNat, by omega⟩
  have hlt : r < 3 := by omega
  rw [hr]
  have G3 := (((((G2.putA (q := 64) (u := .int .u8 c) (by decide +kernel)).putA (q := 65) (u := .int .i64 c) (by decide +kernel)).putA (q := 66) (u := .slice ad 3 cp) (by decide +kernel)).putA (q := 67) (u := .int .i64 3) (by decide +kernel)).putA (q := 68) (u := .int .i64 (r : Int)) (by decide +kernel)).putI (q := 14) (k := .i64) (z := (r : Int)) (by decide +kernel)
  have G4 := keep G3 [6, 7, 8, 9, 10, 11, 12, 14]
  rw [show ((r : Int)) = Int.ofNat r from rfl, k31 c r] at G4
  exact good_last ok31 lb31 (all31 r hlt) G4
theorem ok32 : Ok Tryz.prog p32 := withM_ok Pt.ok _
theorem n5_32 : ∀ x ∈ m5_32, mrB Pt.pr 1000000 5 10000 x = true := cm e32_0 (cn)
theorem n8_32 : ∀ x ∈ m8_32, mrB Pt.pr 1000000 8 10000 x = true := cm e32_1 (cm e32_2 (cm e32_3 (cm e32_4 (cm e32_5 (cm e32_6 (cm e32_7 (cm e32_8 (cm e32_9 (cn)))))))))
theorem lb32 : LibOk Tryz.prog p32 := memsOf_lb Pt.lb [(10, flatM memT), (5, memR 10000 m5_32), (8, memR 10000 m8_32)] (List.forall_mem_cons.2 ⟨flatM_ok (memT_sound Ws.works10), List.forall_mem_cons.2 ⟨memR_sound Pt.ok Pt.lb _ n5_32, List.forall_mem_cons.2 ⟨memR_sound Pt.ok Pt.lb _ n8_32, fun _ h => (List.not_mem_nil h).elim⟩⟩⟩)
theorem all32 : ∀ r, r < 9 → Q32 r := st (st (st (st (st (st (st (st (st (nil) t32_0) t32_1) t32_2) t32_3) t32_4) t32_5) t32_6) t32_7) t32_8
theorem g32 (a b c : Int) : segP Pt.pr 1000000 M (((segs Pt.ff4.body).drop 2).take 7) [6, 7, 8, 9, 10, 11, 12] [2] [33, 39] (B a b c 3 2) [] s0 = some (C32 c, [], S32) := by kernel_rfl
theorem k32 (c : Int) (r : Nat) : keepQ M [6, 7, 8, 9, 10, 11, 12, 14] (En.set (Pa.of M.dp 14) (.int .i64 (.ofNat r)) (En.set (Pa.of M.dp 68) .any (En.set (Pa.of M.dp 67) .any (En.set (Pa.of M.dp 66) .any (En.set (Pa.of M.dp 65) .any (En.set (Pa.of M.dp 64) .any (C32 c))))))) (.leaf .any) = E32 r := by kernel_rfl
theorem from32 (a b c : Int) (h0 : 0 ≤ c) (h1 : c < 256) {er : Env} {dr : List Deferred} {h h0' : Heap} (G : Run.Good Tryz.prog M (B a b c 3 2) [] s0 h0' er dr h)
    : WPs none Tryz.prog ((segs Pt.ff4.body).drop 2) (retK Tryz.prog Pt.ff4.res (fun v h' => v = .bool true ∧ Ext h0' h')) er dr h := by
  refine good_segP Pt.ok Pt.lb (k := 7) (g32 a b c) G fun er' dr' h2 G2 => ?_
  rw [List.drop_drop]
  have hl : er'.length = 171 := G2.len.trans (by kernel_rfl)
  have h1b : er'.getD 2 undef = .int .u8 c := G2.int (t := 2) (by decide +kernel) (by kernel_rfl)
  obtain ⟨ad, cp, h9⟩ := sliceAt G2 (t := 9) (b := 33) (o := 0) (L := 9) (c := 0) (by decide +kernel) (.inr (by kernel_rfl))
  refine hand9 c 9 h0 h1 (by decide) (by decide) rfl hl h1b h9 ?_
  obtain ⟨r, hr⟩ : ∃ r : Nat, c % 9 = (r : Int) := ⟨(c % 9).toNat, by omega⟩
  have hlt : r < 9 := by omega
  rw [hr]
  have G3 := (((((G2.putA (q := 64) (u := .int .u8 c) (by decide +kernel)).putA (q := 65) (u := .int .i64 c) (by decide +kernel)).putA (q := 66) (u := .slice ad 9 cp) (by decide +kernel)).putA (q := 67) (u := .int .i64 9) (by decide +kernel)).putA (q := 68) (u := .int .i64 (r : Int)) (by decide +kernel)).putI (q := 14) (k := .i64) (z := (r : Int)) (by decide +kernel)
  have G4 := keep G3 [6, 7, 8, 9, 10, 11, 12, 14]
  rw [show ((r : Int)) = Int.ofNat r from rfl, k32 c r] at G4
  exact good_last ok32 lb32 (all32 r hlt) G4
theorem ok33 : Ok Tryz.prog p33 := withM_ok Pt.ok _
theorem n5_33 : ∀ x ∈ m5_33, mrB Pt.pr 1000000 5 10000 x = true := cm e33_0 (cn)
theorem n8_33 : ∀ x ∈ m8_33, mrB Pt.pr 1000000 8 10000 x = true := cm e33_1 (cm e33_2 (cm e33_3 (cm e33_4 (cm e33_5 (cm e33_6 (cm e33_7 (cm e33_8 (cm e33_9 (cm e33_10 (cm e33_11 (cm e33_12 (cm e33_13 (cm e33_14 (cm e33_15 (cm e33_16 (cm e33_17 (cm e33_18 (cm e33_19 (cm e33_20 (cm e33_21 (cm e33_22 (cm e33_23 (cm e33_24 (cm e33_25 (cm e33_26 (cm e33_27 (cn)))))))))))))))))))))))))))
theorem lb33 : LibOk Tryz.prog p33 := memsOf_lb Pt.lb [(10, flatM memT), (5, memR 10000 m5_33), (8, memR 10000 m8_33)] (List.forall_mem_cons.2 ⟨flatM_ok (memT_sound Ws.works10), List.forall_mem_cons.2 ⟨memR_sound Pt.ok Pt.lb _ n5_33, List.forall_mem_cons.2 ⟨memR_sound Pt.ok Pt.lb _ n8_33, fun _ h => (List.not_mem_nil h).elim⟩⟩⟩)
theorem all33 : ∀ r, r < 27 → Q33 r := st (st (st (st (st (st (st (st (st (st (st (st (st (st (st (st (st (st (st (st (st (st (st (st (st (st (st (nil) t33_0) t33_1) t33_2) t33_3) t33_4) t33_5) t33_6) t33_7) t33_8) t33_9) t33_10) t33_11) t33_12) t33_13) t33_14) t33_15) t33_16) t33_17) t33_18) t33_19) t33_20) t33_21) t33_22) t33_23) t33_24) t33_25) t33_26
theorem g33 (a b c : Int) : segP Pt.pr 1000000 M (((segs Pt.ff4.body).drop 2).take 7) [6, 7, 8, 9, 10, 11, 12] [2] [60, 69] (B a b c 3 3) [] s0 = some (C33 c, [], S33) := by kernel_rfl
theorem k33 (c : Int) (r : Nat) : keepQ M [6, 7, 8, 9, 10, 11, 12, 14] (En.set (Pa.of M.dp 14) (.int .i64 (.ofNat r)) (En.set (Pa.of M.dp 68) .any (En.set (Pa.of M.dp 67) .any (En.set (Pa.of M.dp 66) .any (En.set (Pa.of M.dp 65) .any (En.set (Pa.of M.dp 64) .any (C33 c))))))) (.leaf .any) = E33 r := by kernel_rfl
theorem from33 (a b c : Int) (h0 : 0 ≤ c) (h1 : c < 256) {er : Env} {dr : List Deferred} {h h0' : Heap} (G : Run.Good Tryz.prog M (B a b c 3 3) [] s0 h0' er dr h)
    : WPs none Tryz.prog ((segs Pt.ff4.body).drop 2) (retK Tryz.prog Pt.ff4.res (fun v h' => v = .bool true ∧ Ext h0' h')) er dr h := by
  refine good_segP Pt.ok Pt.lb (k := 7) (g33 a b c) G fun er' dr' h2 G2 => ?_
  rw [List.drop_drop]
  have hl : er'.length = 171 := G2.len.trans (by kernel_rfl)
  have h1b : er'.getD 2 undef = .int .u8 c := G2.int (t := 2) (by decide +kernel) (by kernel_rfl)
  obtain ⟨ad, cp, h9⟩ := sliceAt G2 (t := 9) (b := 60) (o := 0) (L := 27) (c := 0) (by decide +kernel) (.inr (by kernel_rfl))
  refine hand9 c 27 h0 h1 (by decide) (by decide) rfl hl h1b h9 ?_
  obtain ⟨r, hr⟩ : ∃ r : Nat, c % 27 = (r : Int) := ⟨(c % 27).toNat, by omega⟩
  have hlt : r < 27 := by omega
  rw [hr]
  have G3 := (((((G2.putA (q := 64) (u := .int .u8 c) (by decide +kernel)).putA (q := 65) (u := .int .i64 c) (by decide +kernel)).putA (q := 66) (u := .slice ad 27 cp) (by decide +kernel)).putA (q := 67) (u := .int .i64 27) (by decide +kernel)).putA (q := 68) (u := .int .i64 (r : Int)) (by decide +kernel)).putI (q := 14) (k := .i64) (z := (r : Int)) (by decide +kernel)
  have G4 := keep G3 [6, 7, 8, 9, 10, 11, 12, 14]
  rw [show ((r : Int)) = Int.ofNat r from rfl, k33 c r] at G4
  exact good_last ok33 lb33 (all33 r hlt) G4
theorem ok41 : Ok Tryz.prog p41 := withM_ok Pt.ok _
theorem n5_41 : ∀ x ∈ m5_41, mrB Pt.pr 1000000 5 10000 x = true := cm e41_0 (cn)
theorem n8_41 : ∀ x ∈ m8_41, mrB Pt.pr 1000000 8 10000 x = true := cm e41_1 (cm e41_2 (cm e41_3 (cm e41_4 (cn))))
theorem lb41 : LibOk Tryz.prog p41 := memsOf_lb Pt.lb [(10, flatM memT), (5, memR 10000 m5_41), (8, memR 10000 m8_41)] (List.forall_mem_cons.2 ⟨flatM_ok (memT_sound Ws.works10), List.forall_mem_cons.2 ⟨memR_sound Pt.ok Pt.lb _ n5_41, List.forall_mem_cons.2 ⟨memR_sound Pt.ok Pt.lb _ n8_41, fun _ h => (List.not_mem_nil h).elim⟩⟩⟩)
theorem all41 : ∀ r, r < 4 → Q41 r := st (st (st (st (nil) t41_0) t41_1) t41_2) t41_3
theorem g41 (a b c : Int) : segP Pt.pr 1000000 M (((segs Pt.ff4.body).drop 2).take 7) [6, 7, 8, 9, 10, 11, 12] [2] [24, 27] (B a b c 4 1) [] s0 = some (C41 c, [], S41) := by kernel_rfl
theorem k41 (c : Int) (r : Nat) : keepQ M [6, 7, 8, 9, 10, 11, 12, 14] (En.set (Pa.of M.dp 14) (.int .i64 (.ofNat r)) (En.set (Pa.of M.dp 68) .any (En.set (Pa.of M.dp 67) .any (En.set (Pa.of M.dp 66) .any (En.set (Pa.of M.dp 65) .any (En.set (Pa.of M.dp 64) .any (C41 c))))))) (.leaf .any) = E41 r := by kernel_rfl
theorem from41 (a b c : Int) (h0 : 0 ≤ c) (h1 : c < 256) {er : Env} {dr : List Deferred} {h h0' : Heap} (G : Run.Good Tryz.prog M (B a b c 4 1) [] s0 h0' er dr h)
    : WPs none Tryz.prog ((segs Pt.ff4.body).drop 2) (retK Tryz.prog Pt.ff4.res (fun v h' => v = .bool true ∧ Ext h0' h')) er dr h := by
  refine good_segP Pt.ok Pt.lb (k := 7) (g41 a b c) G fun er' dr' h2 G2 => ?_
  rw [List.drop_drop]
  have hl : er'.length = 171 := G2.len.trans (by kernel_rfl)
  have h1b : er'.getD 2 undef = .int .u8 c := G2.int (t := 2) (by decide +kernel) (by kernel_rfl)
  obtain ⟨ad, cp, h9⟩ := sliceAt G2 (t := 9) (b := 24) (o := 0) (L := 4) (c := 0) (by decide +kernel) (.inr (by kernel_rfl))
  refine hand9 c 4 h0 h1 (by decide) (by decide) rfl hl h1b h9 ?_
  obtain ⟨r, hr⟩ : ∃ r : Nat, c % 4 = (r : Int) := ⟨(c % 4).toNat, by omega⟩
  have hlt : r < 4 := by omega
  rw [hr]
  have G3 := (((((G2.putA (q := 64) (u := .int .u8 c) (by decide +kernel)).putA (q := 65) (u := .int .i64 c) (by decide +kernel)).putA (q := 66) (u := .slice ad 4 cp) (by decide +kernel)).putA (q := 67) (u := .int .i64 4) (by decide +kernel)).putA (q := 68) (u := .int .i64 (r : Int)) (by decide +kernel)).putI (q := 14) (k := .i64) (z := (r : Int)) (by decide +kernel)
  have G4 := keep G3 [6, 7, 8, 9, 10, 11, 12, 14]
  rw [show ((r : Int)) = Int.ofNat r from rfl, k41 c r] at G4
  exact good_last ok41 lb41 (all41 r hlt) G4
theorem ok42 : Ok Tryz.prog p42 := withM_ok Pt.ok _
theorem n5_42 : ∀ x ∈ m5_42, mrB Pt.pr 1000000 5 10000 x = true := cm e42_0 (cn)
theorem n8_42 : ∀ x ∈ m8_42, mrB Pt.pr 1000000 8 10000 x = true := cm e42_1 (cm e42_2 (cm e42_3 (cm e42_4 (cm e42_5 (cm e42_6 (cm e42_7 (cm e42_8 (cm e42_9 (cm e42_10 (cm e42_11 (cm e42_12 (cm e42_13 (cm e42_14 (cm e42_15 (cm e42_16 (cn))))))))))))))))
theorem lb42 : LibOk Tryz.prog p42 := memsOf_lb Pt.lb [(10, flatM memT), (5, memR 10000 m5_42), (8, memR 10000 m8_42)] (List.forall_mem_cons.2 ⟨flatM_ok (memT_sound Ws.works10), List.forall_mem_cons.2 ⟨memR_sound Pt.ok Pt.lb _ n5_42, List.forall_mem_cons.2 ⟨memR_sound Pt.ok Pt.lb _ n8_42, fun _ h => (List.not_mem_nil h).elim⟩⟩⟩)
theorem all42 : ∀ r, r < 16 → Q42 r := st (st (st (st (st (st (st (st (st (st (st (st (st (st (st (st (nil) t42_0) t42_1) t42_2) t42_3) t42_4) t42_5) t42_6) t42_7) t42_8) t42_9) t42_10) t42_11) t42_12) t42_13) t42_14) t42_15
theorem g42 (a b c : Int) : segP Pt.pr 1000000 M (((segs Pt.ff4.body).drop 2).take 7) [6, 7, 8, 9, 10, 11, 12] [2] [46, 52] (B a b c 4 2) [] s0 = some (C42 c, [], S42) := by kernel_rfl
theorem k42 (c : Int) (r : Nat) : keepQ M [6, 7, 8, 9, 10, 11, 12, 14] (En.set (Pa.of M.dp 14) (.int .i64 (.ofNat r)) (En.set (Pa.of M.dp 68) .any (En.set (Pa.of M.dp 67) .any (En.set (Pa.of M.dp 66) .any (En.set (Pa.of M.dp 65) .any (En.set (Pa.of M.dp 64) .any (C42 c))))))) (.leaf .any) = E42 r := by kernel_rfl
theorem from42 (a b c : Int) (h0 : 0 ≤ c) (h1 : c < 256) {er : Env} {dr : List Deferred} {h h0' : Heap} (G : Run.Good Tryz.prog M (B a b c 4 2) [] s0 h0' er dr h)
    : WPs none Tryz.prog ((segs Pt.ff4.body).drop 2) (retK Tryz.prog Pt.ff4.res (fun v h' => v = .bool true ∧ Ext h0' h')) er dr h := by
  refine good_segP Pt.ok Pt.lb (k := 7) (g42 a b c) G fun er' dr' h2 G2 => ?_
  rw [List.drop_drop]
  have hl : er'.length = 171 := G2.len.trans (by kernel_rfl)
  have h1b : er'.getD 2 undef = .int .u8 c := G2.int (t := 2) (by decide +kernel) (by kernel_rfl)
  obtain ⟨ad, cp, h9⟩ := sliceAt G2 (t := 9) (b := 46) (o := 0) (L := 16) (c := 0) (by decide +kernel) (.inr (by kernel_rfl))
  refine hand9 c 16 h0 h1 (by decide) (by decide) rfl hl h1b h9 ?_
  obtain ⟨r, hr⟩ : ∃ r : Nat, c % 16 = (r : Int) := ⟨(c % 16).toNat, by omega⟩
  have hlt : r < 16 := by omega
  rw [hr]
  have G3 := (((((G2.putA (q := 64) (u := .int .u8 c) (by decide +kernel)).putA (q := 65) (u := .int .i64 c) (by decide +kernel)).putA (q := 66) (u := .slice ad 16 cp) (by decide +kernel)).putA (q := 67) (u := .int .i64 16) (by decide +kernel)).putA (q := 68) (u := .int .i64 (r : Int)) (by decide +kernel)).putI (q := 14) (k := .i64) (z := (r : Int)) (by decide +kernel)
  have G4 := keep G3 [6, 7, 8, 9, 10, 11, 12, 14]
  rw [show ((r : Int)) = Int.ofNat r from rfl, k42 c r] at G4
  exact good_last ok42 lb42 (all42 r hlt) G4
theorem ok43 : Ok Tryz.prog p43 := withM_ok Pt.ok _
theorem n5_43 : ∀ x ∈ m5_43, mrB Pt.pr 1000000 5 10000 x = true := cm e43_0 (cn)
theorem n8_43 : ∀ x ∈ m8_43, mrB Pt.pr 1000000 8 10000 x = true := cm e43_1 (cm e43_2 (cm e43_3 (cm e43_4 (cm e43_5 (cm e43_6 (cm e43_7 (cm e43_8 (cm e43_9 (cm e43_10 (cm e43_11 (cm e43_12 (cm e43_13 (cm e43_14 (cm e43_15 (cm e43_16 (cm e43_17 (cm e43_18 (cm e43_19 (cm e43_20 (cm e43_21 (cm e43_22 (cm e43_23 (cm e43_24 (cm e43_25 (cm e43_26 (cm e43_27 (cm e43_28 (cm e43_29 (cm e43_30 (cm e43_31 (cm e43_32 (cm e43_33 (cm e43_34 (cm e43_35 (cm e43_36 (cm e43_37 (cm e43_38 (cm e43_39 (cm e43_40 (cm e43_41 (cm e43_42 (cm e43_43 (cm e43_44 (cm e43_45 (cm e43_46 (cm e43_47 (cm e43_48 (cm e43_49 (cm e43_50 (cm e43_51 (cm e43_52 (cm e43_53 (cm e43_54 (cm e43_55 (cm e43_56 (cm e43_57 (cm e43_58 (cm e43_59 (cm e43_60 (cm e43_61 (cm e43_62 (cm e43_63 (cm e43_64 (cn))))))))))))))))))))))))))))))))))))))))))))))))))))))))))))))))
theorem lb43 : LibOk Tryz.prog p43 := memsOf_lb Pt.lb [(10, flatM memT), (5, memR 10000 m5_43), (8, memR 10000 m8_43)] (List.forall_mem_cons.2 ⟨flatM_ok (memT_sound Ws.works10), List.forall_mem_cons.2 ⟨memR_sound Pt.ok Pt.lb _ n5_43, List.forall_mem_cons.2 ⟨memR_sound Pt.ok Pt.lb _ n8_43, fun _ h => (List.not_mem_nil h).elim⟩⟩⟩)
theorem all43 : ∀ r, r < 64 → Q43 r := st (st (st (st (st (st (st (st (st (st (st (st (st (st (st (st (st (st (st (st (st (st (st (st (st (st (st (st (st (st (st (st (st (st (st (st (st (st (st (st (st (st (st (st (st (st (st (st (st (st (st (st (st (st (st (st (st (st (st (st (st (st (st (st (nil) t43_0) t43_1) t43_2) t43_3) t43_4) t43_5) t43_6) t43_7) t43_8) t43_9) t43_10) t43_11) t43_12) t43_13) t43_14) t43_15) t43_16) t43_17) t43_18) t43_19) t43_20) t43_21) t43_22) t43_23) t43_24) t43_25) t43_26) t43_27) t43_28) t43_29) t43_30) t43_31) t43_32) t43_33) t43_34) t43_35) t43_36) t43_37) t43_38) t43_39) t43_40) t43_41) t43_42) t43_43) t43_44) t43_45) t43_46) t43_47) t43_48) t43_49) t43_50) t43_51) t43_52) t43_53) t43_54) t43_55) t43_56) t43_57) t43_58) t43_59) t43_60) t43_61) t43_62) t43_63
theorem g43 (a b c : Int) : segP Pt.pr 1000000 M (((segs Pt.ff4.body).drop 2).take 7) [6, 7, 8, 9, 10, 11, 12] [2] [110, 119] (B a b c 4 3) [] s0 = some (C43 c, [], S43) := by kernel_rfl
theorem k43 (c : Int) (r : Nat) : keepQ M [6, 7, 8, 9, 10, 11, 12, 14] (En.set (Pa.of M.dp 14) (.int .i64 (.ofNat r)) (En.set (Pa.of M.dp 68) .any (En.set (Pa.of M.dp 67) .any (En.set (Pa.of M.dp 66) .any (En.set (Pa.of M.dp 65) .any (En.set (Pa.of M.dp 64) .any (C43 c))))))) (.leaf .any) = E43 r := by kernel_rfl
theorem from43 (a b c : Int) (h0 : 0 ≤ c) (h1 : c < 256) {er : Env} {dr : List Deferred} {h h0' : Heap} (G : Run.Good Tryz.prog M (B a b c 4 3) [] s0 h0' er dr h)
    : WPs none Tryz.prog ((segs Pt.ff4.body).drop 2) (retK Tryz.prog Pt.ff4.res (fun v h' => v = .bool true ∧ Ext h0' h')) er dr h := by
  refine good_segP Pt.ok Pt.lb (k := 7) (g43 a b c) G fun er' dr' h2 G2 => ?_
  rw [List.drop_drop]
  have hl : er'.length = 171 := G2.len.trans (by kernel_rfl)
  have h1b : er'.getD 2 undef = .int .u8 c := G2.int (t := 2) (by decide +kernel) (by kernel_rfl)
  obtain ⟨ad, cp, h9⟩ := sliceAt G2 (t := 9) (b := 110) (o := 0) (L := 64) (c := 0) (by decide +kernel) (.inr (by kernel_rfl))
  refine hand9 c 64 h0 h1 (by decide) (by decide) rfl hl h1b h9 ?_
  obtain ⟨r, hr⟩ : ∃ r : Nat, c % 64 = (r : Int) := ⟨(c % 64).toNat, by omega⟩
  have hlt : r < 64 := by omega
  rw [hr]
  have G3 := (((((G2.putA (q := 64) (u := .int .u8 c) (by decide +kernel)).putA (q := 65) (u := .int .i64 c) (by decide +kernel)).putA (q := 66) (u := .slice ad 64 cp) (by decide +kernel)).putA (q := 67) (u := .int .i64 64) (by decide +kernel)).putA (q := 68) (u := .int .i64 (r : Int)) (by decide +kernel)).putI (q := 14) (k := .i64) (z := (r : Int)) (by decide +kernel)
  have G4 := keep G3 [6, 7, 8, 9, 10, 11, 12, 14]
  rw [show ((r : Int)) = Int.ofNat r from rfl, k43 c r] at G4
  exact good_last ok43 lb43 (all43 r hlt) G4
theorem rowed4 (a b c : Int) (h : Heap) (ha : 0 ≤ a ∧ a ≤ 255) (hb : 0 ≤ b ∧ b ≤ 255) (hc : 0 ≤ c ∧ c ≤ 255) : CallsH Tryz.prog 4 #[.int .u8 a, .int .u8 b, .int .u8 c] h (fun v h' => v = .bool true ∧ Ext h h') := by
  refine good_call Pt.ok (fi := Pt.ff4) (by kernel_rfl) (us := [.int .u8 a, .int .u8 b, .int .u8 c]) (show 3 ≤ Pt.ff4.nt by decide +kernel) ?_
  have hv : VL (fun _ => none) [.int .u8 a, .int .u8 b, .int .u8 c] [.int .u8 a, .int .u8 b, .int .u8 c] := by simp [VL, VR]
  have G0 := Good.start (P := Tryz.prog) (h0 := h) (nt := Pt.ff4.nt) hv (show 3 ≤ Pt.ff4.nt by decide +kernel) (by decide +kernel)
  have hnt : Pt.ff4.nt = 171 := by kernel_rfl
  have hl := G0.len
  have h0 : ([Value.int .u8 a, .int .u8 b, .int .u8 c] ++ List.replicate (Pt.ff4.nt - [Value.int .u8 a, .int .u8 b, .int .u8 c].length) undef).getD 0 undef = .int .u8 a := rfl
  have h1 : ([Value.int .u8 a, .int .u8 b, .int .u8 c] ++ List.replicate (Pt.ff4.nt - [Value.int .u8 a, .int .u8 b, .int .u8 c].length) undef).getD 1 undef = .int .u8 b := rfl
  refine hand0 a b ha.1 (by omega) hb.1 (by omega) (hl.trans hnt) h0 h1 ?_
  have G1 := ((((((((G0.put (q := 6) (v := .bool false) (u := .bool false) (by rw [hnt]; decide) (fun ι => by simp only [VR])).putA (q := 26) (u := .int .u8 a) (by rw [hnt]; decide)).putA (q := 27) (u := .int .i64 a) (by rw [hnt]; decide)).putA (q := 28) (u := .int .i64 (a % 3)) (by rw [hnt]; decide)).putA (q := 29) (u := .int .i64 (2 + a % 3)) (by rw [hnt]; decide)).putA (q := 30) (u := .int .u8 b) (by rw [hnt]; decide)).putA (q := 31) (u := .int .i64 b) (by rw [hnt]; decide)).putA (q := 32) (u := .int .i64 (b % 3)) (by rw [hnt]; decide)).putA (q := 33) (u := .int .i64 (1 + b % 3)) (by rw [hnt]; decide)
  have G2 := (G1.putI (q := 7) (k := .i64) (z := 2 + a % 3) (by rw [hnt]; decide)).putI (q := 8) (k := .i64) (z := 1 + b % 3) (by rw [hnt]; decide)
  have hk : 2 + a % 3 = 2 ∨ 2 + a % 3 = 3 ∨ 2 + a % 3 = 4 := by omega
  have hn : 1 + b % 3 = 1 ∨ 1 + b % 3 = 2 ∨ 1 + b % 3 = 3 := by omega
  rcases hk with e | e | e <;> rcases hn with f | f | f
  · rw [e, f] at G2 ⊢; exact from21 a b c hc.1 (by omega) G2
  · rw [e, f] at G2 ⊢; exact from22 a b c hc.1 (by omega) G2
  · rw [e, f] at G2 ⊢; exact from23 a b c hc.1 (by omega) G2
  · rw [e, f] at G2 ⊢; exact from31 a b c hc.1 (by omega) G2
  · rw [e, f] at G2 ⊢; exact from32 a b c hc.1 (by omega) G2
  · rw [e, f] at G2 ⊢; exact from33 a b c hc.1 (by omega) G2
  · rw [e, f] at G2 ⊢; exact from41 a b c hc.1 (by omega) G2
  · rw [e, f] at G2 ⊢; exact from42 a b c hc.1 (by omega) G2
  · rw [e, f] at G2 ⊢; exact from43 a b c hc.1 (by omega) G2
end Go.Proofs.YtmpfljfffljoeaaGreatDoor.R4
