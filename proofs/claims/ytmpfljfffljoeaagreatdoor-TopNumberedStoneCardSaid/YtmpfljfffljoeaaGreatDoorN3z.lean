/- The statement on orders and weights. No condition. -/
import Derived.Test.YtmpfljfffljoeaaGreatDoorN3
import Derived.Test.YtmpfljfffljoeaaGreatDoorN3a
import Derived.Test.YtmpfljfffljoeaaGreatDoorN3b
import Derived.Test.YtmpfljfffljoeaaGreatDoorN3c
import Derived.Test.YtmpfljfffljoeaaGreatDoorN3d
import Derived.Test.YtmpfljfffljoeaaGreatDoorN3e
import Derived.Test.YtmpfljfffljoeaaGreatDoorN3f
import Derived.Test.YtmpfljfffljoeaaGreatDoorN3g
import Derived.Test.YtmpfljfffljoeaaGreatDoorN3h
import Derived.Test.YtmpfljfffljoeaaGreatDoorN3i
import Derived.Test.YtmpfljfffljoeaaGreatDoorC5
import Derived.Test.YtmpfljfffljoeaaGreatDoorWs
namespace Go.Proofs.YtmpfljfffljoeaaGreatDoor.N3
open Go Go.Proofs Go.Run Go.Eng
set_option maxRecDepth 100000
set_option linter.unusedVariables false
set_option linter.unusedSimpArgs false

theorem ok1 : Ok Tryz.prog p1 := withM_ok Pt.ok _
theorem lb1 : LibOk Tryz.prog p1 := memsOf_lb Pt.lb [(10, flatM memT)] (List.forall_mem_cons.2 ⟨flatM_ok (memT_sound Ws.works10), fun _ h => (List.not_mem_nil h).elim⟩)
noncomputable def pC : Pr := withM Pt.pr (memsOf [(18, memR 10000 [C5.x])])
theorem okC : Ok Tryz.prog pC := withM_ok Pt.ok _
theorem lbC : LibOk Tryz.prog pC := memsOf_lb Pt.lb [(18, memR 10000 [C5.x])] (List.forall_mem_cons.2 ⟨memC_sound [C5.x] (fun y hy => by rw [List.mem_singleton.1 hy]; exact C5.hc), fun _ h => (List.not_mem_nil h).elim⟩)
theorem all2 : ∀ r, r < 2 → Q2 r := st (st (nil) t2_0) t2_1
theorem g2 (a b : Int) : segP Pt.pr 1000000 M (((segs Pt.ff3.body).drop 2).take 5) [4, 5, 6, 7, 9, 10] [1] [1] (B a b 2) [] s0 = some (C2 b, [], S2) := by kernel_rfl
theorem k2 (b : Int) (r : Nat) : keepQ M [4, 5, 6, 7, 9, 10, 11] (En.set (Pa.of M.dp 11) (.int .i64 (.ofNat r)) (En.set (Pa.of M.dp 52) .any (En.set (Pa.of M.dp 51) .any (En.set (Pa.of M.dp 50) .any (En.set (Pa.of M.dp 49) .any (C2 b)))))) (.leaf .any) = E2 r := by kernel_rfl
theorem from2 (a b : Int) (h0 : 0 ≤ b) (h1 : b < 256) {er : Env} {dr : List Deferred} {h h0' : Heap} (G : Run.Good Tryz.prog M (B a b 2) [] s0 h0' er dr h)
    : WPs none Tryz.prog ((segs Pt.ff3.body).drop 2) (retK Tryz.prog Pt.ff3.res (fun v h' => v = .bool true ∧ Ext h0' h')) er dr h := by
  refine good_segP Pt.ok Pt.lb (k := 5) (g2 a b) G fun er' dr' h2 G2 => ?_
  rw [List.drop_drop]
  have hl : er'.length = 161 := G2.len.trans (by kernel_rfl)
  have h1b : er'.getD 1 undef = .int .u8 b := G2.int (t := 1) (by decide +kernel) (by kernel_rfl)
  have h7w : er'.getD 7 undef = .int .i64 2 := G2.int (t := 7) (by decide +kernel) (by kernel_rfl)
  refine hand7 b 2 h0 h1 (by decide) (by decide) hl h1b h7w ?_
  obtain ⟨r, hr⟩ : ∃ r : Nat, b % 2 = (r : Int) := ⟨(b % 2).toNat, by omega⟩
  have hlt : r < 2 := by omega
  rw [hr]
  have G3 := ((((G2.putA (q := 49) (u := .int .u8 b) (by decide +kernel)).putA (q := 50) (u := .int .i64 b) (by decide +kernel)).putA (q := 51) (u := .int .i64 2) (by decide +kernel)).putA (q := 52) (u := .int .i64 (r : Int)) (by decide +kernel)).putI (q := 11) (k := .i64) (z := (r : Int)) (by decide +kernel)
  have G4 := keep G3 [4, 5, 6, 7, 9, 10, 11]
  rw [show ((r : Int)) = Int.ofNat r from rfl, k2 b r] at G4
  exact good_last ok1 lb1 (all2 r hlt) G4
theorem all3 : ∀ r, r < 6 → Q3 r := st (st (st (st (st (st (nil) t3_0) t3_1) t3_2) t3_3) t3_4) t3_5
theorem g3 (a b : Int) : segP Pt.pr 1000000 M (((segs Pt.ff3.body).drop 2).take 5) [4, 5, 6, 7, 9, 10] [1] [3] (B a b 3) [] s0 = some (C3 b, [], S3) := by kernel_rfl
theorem k3 (b : Int) (r : Nat) : keepQ M [4, 5, 6, 7, 9, 10, 11] (En.set (Pa.of M.dp 11) (.int .i64 (.ofNat r)) (En.set (Pa.of M.dp 52) .any (En.set (Pa.of M.dp 51) .any (En.set (Pa.of M.dp 50) .any (En.set (Pa.of M.dp 49) .any (C3 b)))))) (.leaf .any) = E3 r := by kernel_rfl
theorem from3 (a b : Int) (h0 : 0 ≤ b) (h1 : b < 256) {er : Env} {dr : List Deferred} {h h0' : Heap} (G : Run.Good Tryz.prog M (B a b 3) [] s0 h0' er dr h)
    : WPs none Tryz.prog ((segs Pt.ff3.body).drop 2) (retK Tryz.prog Pt.ff3.res (fun v h' => v = .bool true ∧ Ext h0' h')) er dr h := by
  refine good_segP Pt.ok Pt.lb (k := 5) (g3 a b) G fun er' dr' h2 G2 => ?_
  rw [List.drop_drop]
  have hl : er'.length = 161 := G2.len.trans (by kernel_rfl)
  have h1b : er'.getD 1 undef = .int .u8 b := G2.int (t := 1) (by decide +kernel) (by kernel_rfl)
  have h7w : er'.getD 7 undef = .int .i64 6 := G2.int (t := 7) (by decide +kernel) (by kernel_rfl)
  refine hand7 b 6 h0 h1 (by decide) (by decide) hl h1b h7w ?_
  obtain ⟨r, hr⟩ : ∃ r : Nat, b % 6 = (r : Int) := ⟨(b % 6).toNat, by omega⟩
  have hlt : r < 6 := by omega
  rw [hr]
  have G3 := ((((G2.putA (q := 49) (u := .int .u8 b) (by decide +kernel)).putA (q := 50) (u := .int .i64 b) (by decide +kernel)).putA (q := 51) (u := .int .i64 6) (by decide +kernel)).putA (q := 52) (u := .int .i64 (r : Int)) (by decide +kernel)).putI (q := 11) (k := .i64) (z := (r : Int)) (by decide +kernel)
  have G4 := keep G3 [4, 5, 6, 7, 9, 10, 11]
  rw [show ((r : Int)) = Int.ofNat r from rfl, k3 b r] at G4
  exact good_last ok1 lb1 (all3 r hlt) G4
theorem all4 : ∀ r, r < 24 → Q4 r := st (st (st (st (st (st (st (st (st (st (st (st (st (st (st (st (st (st (st (st (st (st (st (st (nil) t4_0) t4_1) t4_2) t4_3) t4_4) t4_5) t4_6) t4_7) t4_8) t4_9) t4_10) t4_11) t4_12) t4_13) t4_14) t4_15) t4_16) t4_17) t4_18) t4_19) t4_20) t4_21) t4_22) t4_23
theorem g4 (a b : Int) : segP Pt.pr 1000000 M (((segs Pt.ff3.body).drop 2).take 5) [4, 5, 6, 7, 9, 10] [1] [5] (B a b 4) [] s0 = some (C4 b, [], S4) := by kernel_rfl
theorem k4 (b : Int) (r : Nat) : keepQ M [4, 5, 6, 7, 9, 10, 11] (En.set (Pa.of M.dp 11) (.int .i64 (.ofNat r)) (En.set (Pa.of M.dp 52) .any (En.set (Pa.of M.dp 51) .any (En.set (Pa.of M.dp 50) .any (En.set (Pa.of M.dp 49) .any (C4 b)))))) (.leaf .any) = E4 r := by kernel_rfl
theorem from4 (a b : Int) (h0 : 0 ≤ b) (h1 : b < 256) {er : Env} {dr : List Deferred} {h h0' : Heap} (G : Run.Good Tryz.prog M (B a b 4) [] s0 h0' er dr h)
    : WPs none Tryz.prog ((segs Pt.ff3.body).drop 2) (retK Tryz.prog Pt.ff3.res (fun v h' => v = .bool true ∧ Ext h0' h')) er dr h := by
  refine good_segP Pt.ok Pt.lb (k := 5) (g4 a b) G fun er' dr' h2 G2 => ?_
  rw [List.drop_drop]
  have hl : er'.length = 161 := G2.len.trans (by kernel_rfl)
  have h1b : er'.getD 1 undef = .int .u8 b := G2.int (t := 1) (by decide +kernel) (by kernel_rfl)
  have h7w : er'.getD 7 undef = .int .i64 24 := G2.int (t := 7) (by decide +kernel) (by kernel_rfl)
  refine hand7 b 24 h0 h1 (by decide) (by decide) hl h1b h7w ?_
  obtain ⟨r, hr⟩ : ∃ r : Nat, b % 24 = (r : Int) := ⟨(b % 24).toNat, by omega⟩
  have hlt : r < 24 := by omega
  rw [hr]
  have G3 := ((((G2.putA (q := 49) (u := .int .u8 b) (by decide +kernel)).putA (q := 50) (u := .int .i64 b) (by decide +kernel)).putA (q := 51) (u := .int .i64 24) (by decide +kernel)).putA (q := 52) (u := .int .i64 (r : Int)) (by decide +kernel)).putI (q := 11) (k := .i64) (z := (r : Int)) (by decide +kernel)
  have G4 := keep G3 [4, 5, 6, 7, 9, 10, 11]
  rw [show ((r : Int)) = Int.ofNat r from rfl, k4 b r] at G4
  exact good_last ok1 lb1 (all4 r hlt) G4
theorem all5 : ∀ r, r < 120 → Q5 r := st (st (st (st (st (st (st (st (st (st (st (st (st (st (st (st (st (st (st (st (st (st (st (st (st (st (st (st (st (st (st (st (st (st (st (st (st (st (st (st (st (st (st (st (st (st (st (st (st (st (st (st (st (st (st (st (st (st (st (st (st (st (st (st (st (st (st (st (st (st (st (st (st (st (st (st (st (st (st (st (st (st (st (st (st (st (st (st (st (st (st (st (st (st (st (st (st (st (st (st (st (st (st (st (st (st (st (st (st (st (st (st (st (st (st (st (st (st (st (st (nil) t5_0) t5_1) t5_2) t5_3) t5_4) t5_5) t5_6) t5_7) t5_8) t5_9) t5_10) t5_11) t5_12) t5_13) t5_14) t5_15) t5_16) t5_17) t5_18) t5_19) t5_20) t5_21) t5_22) t5_23) t5_24) t5_25) t5_26) t5_27) t5_28) t5_29) t5_30) t5_31) t5_32) t5_33) t5_34) t5_35) t5_36) t5_37) t5_38) t5_39) t5_40) t5_41) t5_42) t5_43) t5_44) t5_45) t5_46) t5_47) t5_48) t5_49) t5_50) t5_51) t5_52) t5_53) t5_54) t5_55) t5_56) t5_57) t5_58) t5_59) t5_60) t5_61) t5_62) t5_63) t5_64) t5_65) t5_66) t5_67) t5_68) t5_69) t5_70) t5_71) t5_72) t5_73) t5_74) t5_75) t5_76) t5_77) t5_78) t5_79) t5_80) t5_81) t5_82) t5_83) t5_84) t5_85) t5_86) t5_87) t5_88) t5_89) t5_90) t5_91) t5_92) t5_93) t5_94) t5_95) t5_96) t5_97) t5_98) t5_99) t5_100) t5_101) t5_102) t5_103) t5_104) t5_105) t5_106) t5_107) t5_108) t5_109) t5_110) t5_111) t5_112) t5_113) t5_114) t5_115) t5_116) t5_117) t5_118) t5_119
theorem g5 (a b : Int) : segP pC 1000000 M (((segs Pt.ff3.body).drop 2).take 5) [4, 5, 6, 7, 9, 10] [1] [7] (B a b 5) [] s0 = some (C5 b, [], S5) := by kernel_rfl
theorem k5 (b : Int) (r : Nat) : keepQ M [4, 5, 6, 7, 9, 10, 11] (En.set (Pa.of M.dp 11) (.int .i64 (.ofNat r)) (En.set (Pa.of M.dp 52) .any (En.set (Pa.of M.dp 51) .any (En.set (Pa.of M.dp 50) .any (En.set (Pa.of M.dp 49) .any (C5 b)))))) (.leaf .any) = E5 r := by kernel_rfl
theorem from5 (a b : Int) (h0 : 0 ≤ b) (h1 : b < 256) {er : Env} {dr : List Deferred} {h h0' : Heap} (G : Run.Good Tryz.prog M (B a b 5) [] s0 h0' er dr h)
    : WPs none Tryz.prog ((segs Pt.ff3.body).drop 2) (retK Tryz.prog Pt.ff3.res (fun v h' => v = .bool true ∧ Ext h0' h')) er dr h := by
  refine good_segP okC lbC (k := 5) (g5 a b) G fun er' dr' h2 G2 => ?_
  rw [List.drop_drop]
  have hl : er'.length = 161 := G2.len.trans (by kernel_rfl)
  have h1b : er'.getD 1 undef = .int .u8 b := G2.int (t := 1) (by decide +kernel) (by kernel_rfl)
  have h7w : er'.getD 7 undef = .int .i64 120 := G2.int (t := 7) (by decide +kernel) (by kernel_rfl)
  refine hand7 b 120 h0 h1 (by decide) (by decide) hl h1b h7w ?_
  obtain ⟨r, hr⟩ : ∃ r : Nat, b % 120 = (r : Int) := ⟨(b % 120).toNat, by omega⟩
  have hlt : r < 120 := by omega
  rw [hr]
  have G3 := ((((G2.putA (q := 49) (u := .int .u8 b) (by decide +kernel)).putA (q := 50) (u := .int .i64 b) (by decide +kernel)).putA (q := 51) (u := .int .i64 120) (by decide +kernel)).putA (q := 52) (u := .int .i64 (r : Int)) (by decide +kernel)).putI (q := 11) (k := .i64) (z := (r : Int)) (by decide +kernel)
  have G4 := keep G3 [4, 5, 6, 7, 9, 10, 11]
  rw [show ((r : Int)) = Int.ofNat r from rfl, k5 b r] at G4
  exact good_last ok1 lb1 (all5 r hlt) G4
theorem numbered3 (a b : Int) (h : Heap) (ha : 0 ≤ a ∧ a ≤ 255) (hb : 0 ≤ b ∧ b ≤ 255) : CallsH Tryz.prog 3 #[.int .u8 a, .int .u8 b] h (fun v h' => v = .bool true ∧ Ext h h') := by
  refine good_call Pt.ok (fi := Pt.ff3) (by kernel_rfl) (us := [.int .u8 a, .int .u8 b]) (show 2 ≤ Pt.ff3.nt by decide +kernel) ?_
  have hv : VL (fun _ => none) [.int .u8 a, .int .u8 b] [.int .u8 a, .int .u8 b] := by simp [VL, VR]
  have G0 := Good.start (P := Tryz.prog) (h0 := h) (nt := Pt.ff3.nt) hv (show 2 ≤ Pt.ff3.nt by decide +kernel) (by decide +kernel)
  have hnt : Pt.ff3.nt = 161 := by kernel_rfl
  have hl := G0.len
  have h0 : ([Value.int .u8 a, .int .u8 b] ++ List.replicate (Pt.ff3.nt - [Value.int .u8 a, .int .u8 b].length) undef).getD 0 undef = .int .u8 a := rfl
  refine hand0 a ha.1 (by omega) (hl.trans hnt) h0 ?_
  have G1 := ((((G0.put (q := 4) (v := .bool false) (u := .bool false) (by rw [hnt]; decide) (fun ι => by simp only [VR])).putA (q := 25) (u := .int .u8 a) (by rw [hnt]; decide)).putA (q := 26) (u := .int .i64 a) (by rw [hnt]; decide)).putA (q := 27) (u := .int .i64 (a % 4)) (by rw [hnt]; decide)).putA (q := 28) (u := .int .i64 (2 + a % 4)) (by rw [hnt]; decide)
  have G2 := G1.putI (q := 5) (k := .i64) (z := 2 + a % 4) (by rw [hnt]; decide)
  have hn : 2 + a % 4 = 2 ∨ 2 + a % 4 = 3 ∨ 2 + a % 4 = 4 ∨ 2 + a % 4 = 5 := by omega
  rcases hn with e | e | e | e
  · rw [e] at G2 ⊢; exact from2 a b hb.1 (by omega) G2
  · rw [e] at G2 ⊢; exact from3 a b hb.1 (by omega) G2
  · rw [e] at G2 ⊢; exact from4 a b hb.1 (by omega) G2
  · rw [e] at G2 ⊢; exact from5 a b hb.1 (by omega) G2
end Go.Proofs.YtmpfljfffljoeaaGreatDoor.N3
