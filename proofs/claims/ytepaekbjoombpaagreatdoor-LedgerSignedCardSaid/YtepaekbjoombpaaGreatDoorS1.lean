/- Walks: texts and signs. -/
import Derived.Test.YtepaekbjoombpaaGreatDoorA2
import Derived.Test.YtepaekbjoombpaaGreatDoorShelf
import Derived.Test.YtepaekbjoombpaaGreatDoorEngV
namespace Go.Proofs.YtepaekbjoombpaaGreatDoor
open Go Go.Proofs Go.Eng Tab Go.RowKit
set_option maxRecDepth 100000
set_option linter.unusedSimpArgs false
set_option linter.unusedVariables false
set_option maxHeartbeats 2000000
set_option linter.defProp false
def S1Fs46 := (And.intro (And.intro @Tryz.underlying3 @Tryz.underlying5) (And.intro @Tryz.underlying9 @Tryz.underlying21))
def S1Fs82 := (And.intro (And.intro @by3 (And.intro @inf3 @sz3)) (And.intro @zero3 (And.intro @Tryz.underlying9 @Tryz.underlying40)))
def S1Fs83 := (And.intro (And.intro (And.intro @agg5 @by5) (And.intro @inf5 @sz5)) (And.intro (And.intro @zero5 @Tryz.underlying3) (And.intro @Tryz.underlying5 (And.intro @Tryz.underlying9 @Tryz.underlying62))))
theorem calls_below {P : Program} {f : FuncId} {args : Array Value} {v : Value} {h : Eng.Heap} (hb : bodied P f = true) (H : ∀ w : World, Calls P f args w fun e w' => e = .returned v ∧ Below w.heap.size w w') : CallsH P f args h (fun u h' => u = v ∧ Ext h h') := by
  unfold CallsH CallsW
  refine ⟨hb, fun w hw => ?_⟩
  refine (H w).mono fun e w' ⟨he, b⟩ => ?_
  exact ⟨v, he, ⟨rfl, by rw [← hw]; exact ⟨b.size, fun i hi => b.block i hi⟩⟩, b.os, b.tape, b.output⟩
theorem calls_same {P : Program} {f : FuncId} {args : Array Value} {v : Value} {h : Eng.Heap} (hb : bodied P f = true) (H : ∀ w : World, Calls P f args w fun e w' => e = .returned v ∧ w' = w) : CallsH P f args h (fun u h' => u = v ∧ h' = h) := by
  unfold CallsH CallsW
  refine ⟨hb, fun w hw => ?_⟩
  refine (H w).mono fun e w' ⟨he, b⟩ => ?_
  subst b
  exact ⟨v, he, ⟨rfl, hw⟩, rfl, rfl, rfl⟩
theorem trim115 (s cutset : ByteArray) (h : Eng.Heap) (hs : s.size ≤ 9223372036854775807) (hcs : cutset.size < 4294967281) (ha : cutset.data.toList.all (fun b => decide (b.toNat < 128)) = true) :
    CallsH Tryz.prog 115 #[.string s, .string cutset] h (fun v h' => v = .string ⟨(Lib.trimS s.data.toList cutset.data.toList).toArray⟩ ∧ Ext h h') :=
  calls_below (by kernel_rfl) fun w => Any.strings_Trim_laid Tryz.lays160 (by kernel_rfl) s cutset w hs hcs (ascii_of_all ha)
theorem last116 (s : ByteArray) (c : Int) (h : Eng.Heap) (hs : s.size < 4611686018427387904) :
    CallsH Tryz.prog 116 #[.string s, .int .u8 c] h (fun v h' => v = .int .i64 (Lib.lastIndexByte s c) ∧ h' = h) :=
  calls_same (by kernel_rfl) fun w => Any.strings_LastIndexByte Tryz.lays149 s c hs w
theorem gd_none {P : Program} {s : Tmp} {w : Bool} {op : Op} {ty : TypeId} {all rest : List Oper} {k : Cont} {dst : Option Tmp} {e : Env} {d : List Deferred} {h : Eng.Heap} : gd P undef s w op ty all rest k dst e d h = execR P all rest k (putE e dst undef) d h := gd_undef
theorem dw_nil {α : Type} {p : α → Bool} : ∀ {l : List α}, l.dropWhile p = [] ↔ ∀ b ∈ l, p b = true
  | [] => by simp
  | x :: l => by
    rw [List.dropWhile_cons]
    split
    · rename_i h
      rw [dw_nil (l := l)]
      simp [h]
    · rename_i h
      simp [h]
theorem trim_nil (l cs : List UInt8) : Lib.trimS l cs = [] ↔ ∀ b ∈ l, cs.contains b = true := by
  unfold Lib.trimS Lib.trimLeftS Lib.trimRightS
  constructor
  · intro H
    have h1 : ∀ b ∈ l.reverse.dropWhile (cs.contains ·), cs.contains b = true := by
      intro b hb
      have hh := dw_nil.1 H b (List.mem_reverse.2 hb)
      exact hh
    cases hd : l.reverse.dropWhile (cs.contains ·) with
    | nil =>
      intro b hb
      exact dw_nil.1 hd b (List.mem_reverse.2 hb)
    | cons x r =>
      have hne : l.reverse.dropWhile (cs.contains ·) ≠ [] := by rw [hd]; simp
      have h2 := List.head_dropWhile_not (cs.contains ·) hne
      have h3 := h1 _ (List.head_mem hne)
      rw [h3] at h2
      cases h2
  · intro H
    have : l.reverse.dropWhile (cs.contains ·) = [] := dw_nil.2 fun b hb => H b (List.mem_reverse.1 hb)
    rw [this]; rfl
/-- A sign of a text. -/
def txt (b : UInt8) : Bool := b == 32 || (decide (48 ≤ b.toNat) && decide (b.toNat ≤ 57))
def text (s : ByteArray) : Bool := decide (1 ≤ s.size ∧ s.size ≤ 12) && s.data.toList.all txt
def dv (b : UInt8) : Nat := if b = 32 then 10 else b.toNat - 48
def sumTo (s : ByteArray) : Nat → Nat
  | 0 => 0
  | n + 1 => sumTo s n + (n + 1) * dv (s.data.getD n 0)
def signS (s : ByteArray) : ByteArray := ⟨#[UInt8.ofNat (97 + sumTo s s.size % 13)]⟩
theorem text_iff (s : ByteArray) : text s = true ↔ (1 ≤ s.size ∧ s.size ≤ 12) ∧ ∀ i, i < s.size → txt (s.data.getD i 0) = true := by
  rw [text, Bool.and_eq_true, decide_eq_true_eq, List.all_eq_true]
  refine and_congr_right fun _ => ⟨fun H i hi => ?_, fun H b hb => ?_⟩
  · have hi' : i < s.data.size := hi
    apply H
    rw [Array.getD_eq_getD_getElem?, Array.getElem?_eq_getElem hi', Option.getD_some, Array.mem_toList_iff]
    exact Array.getElem_mem hi'
  · obtain ⟨i, hi, rfl⟩ := Array.mem_iff_getElem.1 (Array.mem_toList_iff.1 hb)
    have := H i hi
    rwa [Array.getD_eq_getD_getElem?, Array.getElem?_eq_getElem hi, Option.getD_some] at this
theorem dv_le (b : UInt8) : dv b ≤ 255 := by
  have := b.toNat_lt
  unfold dv; split <;> omega
theorem sumTo_le (s : ByteArray) : ∀ n, n ≤ 12 → sumTo s n ≤ n * 3060
  | 0, _ => Nat.le_refl _
  | n + 1, h => by
    have h1 := sumTo_le s n (by omega)
    have h2 : (n + 1) * dv (s.data.getD n 0) ≤ 12 * 255 := Nat.mul_le_mul h (dv_le _)
    rw [sumTo]; omega
theorem txt_in : ∀ b : UInt8, txt b = ([48, 49, 50, 51, 52, 53, 54, 55, 56, 57, 32] : List UInt8).contains b := by
  have key : ∀ n : Fin 256, txt (UInt8.ofNat n.1) = ([48, 49, 50, 51, 52, 53, 54, 55, 56, 57, 32] : List UInt8).contains (UInt8.ofNat n.1) := by decide
  intro b
  have := key ⟨b.toNat, b.toNat_lt⟩
  simpa using this
theorem isText82 (s : ByteArray) (h : Eng.Heap) (hs : s.size ≤ 9223372036854775807) : CallsH Tryz.prog 82 #[.string s] h (fun v h' => v = .bool (text s) ∧ Ext h h') := by
  (refine CallsH_of_exec Tryz.func82 rfl bod82 ?_; simp only [Tryz.ntmps82, Tryz.results82, coreS, stK_some, splice, Value.cells, Value.oneCell', Nat.reduceAdd, Nat.reduceSub, Nat.reduceMul, Nat.reduceLeDiff, Int.reduceEq, Nat.reduceEqDiff, S1Fs82])
  refine CallsH.mono (within71 1 12 (some ⟨h.size, 0, none⟩) 1 1 [(s.size : Int)] _ (intsV_one push_new) (by omega)) ?_
  rintro v h1 ⟨rfl, x1⟩
  have x1' := x1.of_push
  by_cases hl : 1 ≤ (s.size : Int) ∧ (s.size : Int) ≤ 12
  · simp only [inB_one, hl, decide_true, coreS, Value.cells, Value.oneCell', Nat.reduceAdd, Nat.reduceSub, Nat.reduceMul, Nat.reduceLeDiff, Int.reduceEq, Nat.reduceEqDiff, S1Fs82]
    refine CallsH.mono (trim115 s _ h1 hs (by decide) (by decide)) ?_
    rintro v h2 ⟨rfl, x2⟩
    have hi := trim_nil s.data.toList [48, 49, 50, 51, 52, 53, 54, 55, 56, 57, 32]
    have ha : text s = true ↔ ∀ b ∈ s.data.toList, ([48, 49, 50, 51, 52, 53, 54, 55, 56, 57, 32] : List UInt8).contains b = true := by
      rw [text, Bool.and_eq_true, decide_eq_true_eq, List.all_eq_true]
      constructor
      · rintro ⟨_, H⟩ b hb; exact (txt_in b).symm.trans (H b hb)
      · exact fun H => ⟨by omega, fun b hb => (txt_in b).trans (H b hb)⟩
    cases hlt : text s with
    | true =>
      have e := hi.2 (ha.1 hlt)
      simp only [e, coreS, Value.cells, Value.oneCell', Nat.reduceAdd, Nat.reduceSub, Nat.reduceMul, Nat.reduceLeDiff, Int.reduceEq, Nat.reduceEqDiff, S1Fs82]
      exact ⟨by simp, x1'.trans x2⟩
    | false =>
      have e : ¬ Lib.trimS s.data.toList [48, 49, 50, 51, 52, 53, 54, 55, 56, 57, 32] = [] := fun hh => by rw [ha.2 (hi.1 hh)] at hlt; cases hlt
      have e2 : ¬ (⟨(Lib.trimS s.data.toList [48, 49, 50, 51, 52, 53, 54, 55, 56, 57, 32]).toArray⟩ : ByteArray) = ⟨#[]⟩ := fun hh => e (by
        have := congrArg (fun b : ByteArray => b.data.toList) hh
        simpa using this)
      simp only [e2, decide_false, coreS, Value.cells, Value.oneCell', Nat.reduceAdd, Nat.reduceSub, Nat.reduceMul, Nat.reduceLeDiff, Int.reduceEq, Nat.reduceEqDiff, S1Fs82]
      exact x1'.trans x2
  · have ht : text s = false := by
      rw [Bool.eq_false_iff]
      exact fun hh => hl (by have := ((text_iff s).1 hh).1; omega)
    simp only [inB_one, hl, ht, gd_none, decide_false, coreS, Value.cells, Value.oneCell', Nat.reduceAdd, Nat.reduceSub, Nat.reduceMul, Nat.reduceLeDiff, Int.reduceEq, Nat.reduceEqDiff, S1Fs82]
    exact x1'
theorem sum_next (s : ByteArray) (i : Nat) : ((i : Int) + 1) * (dv (s.data.getD i 0) : Int) = (((i + 1) * dv (s.data.getD i 0) : Nat) : Int) := by
  rw [Int.natCast_mul]; rfl
theorem sign_enc : ∀ r : Nat, r < 13 → Utf8.encode (97 + (r : Int)) = ⟨#[UInt8.ofNat (97 + r)]⟩ := by decide
theorem mod_int (a b : Nat) : (a : Int).tmod b = ((a % b : Nat) : Int) := by rw [Int.tmod_eq_emod_of_nonneg (by omega)]; rfl
theorem dv_blank {b : UInt8} (h : (b.toNat : Int) = 32) : dv b = 10 := by
  have : b = 32 := UInt8.toNat_inj.1 (by simpa using (by omega : b.toNat = 32))
  rw [dv, if_pos this]
theorem dv_digit {b : UInt8} (h : ¬ (b.toNat : Int) = 32) (ht : txt b = true) : (b.toNat : Int) - 48 = (dv b : Int) ∧ 48 ≤ b.toNat ∧ b.toNat ≤ 57 := by
  have hb : ¬ b = 32 := fun e => h (by rw [e]; rfl)
  have h2 : 48 ≤ b.toNat ∧ b.toNat ≤ 57 := by simpa [txt, hb] using ht
  rw [dv, if_neg hb]
  omega
theorem sign83 (s : ByteArray) (h : Eng.Heap) (ht : text s = true) : CallsH Tryz.prog 83 #[.string s] h (fun v h' => v = .string (signS s) ∧ Ext h h') := by
  obtain ⟨⟨h1, h12⟩, hb⟩ := (text_iff s).1 ht
  (refine CallsH_of_exec Tryz.func83 rfl bod83 ?_; simp only [Tryz.ntmps83, Tryz.results83, coreS, stK_some, splice, Value.cells, Value.oneCell', Nat.reduceAdd, Nat.reduceSub, Nat.reduceMul, Nat.reduceLeDiff, Int.reduceEq, Nat.reduceEqDiff, S1Fs83])
  refine conv_str_bytesT Tryz.underlying9 Tryz.underlying62 Tryz.underlying5 (by rfl) fun a c h2 hc _ R2 x2 => ?_
  have hsm : a.isSome = true := R2.isSome (by rw [strV_length]; omega)
  simp only [coreS, Value.cells, Value.oneCell', Nat.reduceAdd, Nat.reduceSub, Nat.reduceMul, Nat.reduceLeDiff, Int.reduceEq, Nat.reduceEqDiff, S1Fs83]
  refine WP_loopI [3, 4, 5, 6, 10, 11, 12, 13, 14, 15, 16, 17, 18, 19, 20, 21, 22, 23, 24, 25, 26] (fun g h' => h' = h2 ∧ ∃ i : Nat, i ≤ s.size ∧ g 10 = .int .i64 i ∧ g 3 = .int .i64 (sumTo s i)) (fun g _ => match g 10 with | .int _ q => s.size - q.toNat | _ => 0) ⟨rfl, 0, by omega, rfl, rfl⟩ ?_
  rintro g h' ⟨rfl, i, hin, hg10, hg3⟩
  by_cases hi : i < s.size
  · have hn := sum_next s i
    have hle := sumTo_le s i (by omega)
    have hle1 := sumTo_le s (i + 1) (by omega)
    have hs1 : sumTo s (i + 1) = sumTo s i + (i + 1) * dv (s.data.getD i 0) := rfl
    have hcell := R2.cell (j := i) (by rw [strV_length]; exact hi)
    rw [strV_get] at hcell
    by_cases hbl : ((s.data.getD i 0).toNat : Int) = 32
    · have hd := dv_blank hbl
      rw [hd] at hn hs1
      have hn' : ((i : Int) + 1) * 10 = (((i + 1) * 10 : Nat) : Int) := hn
      simp only [hg10, hg3, hcell, hbl, hn', Int.toNat_natCast, decide_true, Bool.not_true, coreS, Value.cells, Value.oneCell', Nat.reduceAdd, Nat.reduceSub, Nat.reduceMul, Nat.reduceLeDiff, Int.reduceEq, Nat.reduceEqDiff, S1Fs83]
      refine ⟨fun _ => ⟨⟨by omega, by omega⟩, hsm, ?_⟩, fun hge => absurd (by omega) hge⟩
      refine ⟨by rw [inK_i64]; omega, by rw [inK_i64]; omega, by rw [inK_i64]; omega, by rw [inK_i64]; omega, roundK_mk (by kernel_rfl) ⟨rfl, i + 1, by omega, rfl, ?_⟩ ?_⟩
      · show Value.int .i64 _ = _
        rw [hs1]; congr 1
      · show s.size - ((i : Int) + 1).toNat < s.size - (i : Int).toNat
        omega
    · obtain ⟨hd, hd1, hd2⟩ := dv_digit hbl (hb i hi)
      simp only [hg10, hg3, hcell, hbl, hd, hn, Int.toNat_natCast, decide_false, Bool.not_false, coreS, Value.cells, Value.oneCell', Nat.reduceAdd, Nat.reduceSub, Nat.reduceMul, Nat.reduceLeDiff, Int.reduceEq, Nat.reduceEqDiff, S1Fs83]
      refine ⟨fun _ => ⟨⟨by omega, by omega⟩, hsm, ?_⟩, fun hge => absurd (by omega) hge⟩
      refine ⟨by rw [inK_u8]; omega, by rw [inK_i64]; omega, by rw [inK_i64]; omega, by rw [inK_i64]; omega, by rw [inK_i64]; omega, by rw [inK_i64]; omega, roundK_mk (by kernel_rfl) ⟨rfl, i + 1, by omega, rfl, ?_⟩ ?_⟩
      · show Value.int .i64 _ = _
        rw [hs1]; congr 1
      · show s.size - ((i : Int) + 1).toNat < s.size - (i : Int).toNat
        omega
  · have hm := mod_int (sumTo s i) 13
    have hm' : ((sumTo s i : Nat) : Int).tmod 13 = ((sumTo s i % 13 : Nat) : Int) := hm
    have hr : sumTo s i % 13 < 13 := Nat.mod_lt _ (by decide)
    have hlt : ¬ (i : Int) < s.size := by omega
    simp only [hg10, hg3, hm', hlt, decide_false, Int.toNat_natCast, coreS, Value.cells, Value.oneCell', Nat.reduceAdd, Nat.reduceSub, Nat.reduceMul, Nat.reduceLeDiff, Int.reduceEq, Nat.reduceEqDiff, S1Fs83]
    refine ⟨by decide, by rw [inK_i64]; omega, by rw [inK_u8]; omega, ?_⟩
    obtain rfl : i = s.size := by omega
    have hv : strV (signS s) = [.int .u8 (97 + ((sumTo s s.size % 13 : Nat) : Int))] := by
      have e1 : (UInt8.ofNat (97 + sumTo s s.size % 13)).toNat = 97 + sumTo s s.size % 13 := by
        rw [UInt8.toNat_ofNat']; omega
      simp only [strV, signS, List.map_cons, List.map_nil, e1]
      rfl
    refine conv_bytes_strT (s := signS s) (a := some ⟨h'.size, 0, none⟩) (n := 1) (c := 1) Tryz.underlying62 Tryz.underlying9 Tryz.underlying5 (by rfl) (by rw [hv]; exact Row.block push_new) rfl ?_
    simp only [coreS, Value.cells, Value.oneCell', Nat.reduceAdd, Nat.reduceSub, Nat.reduceMul, Nat.reduceLeDiff, Int.reduceEq, Nat.reduceEqDiff, S1Fs83]
    exact x2.trans ((Ext.refl _).push _)
theorem signOf46 (s : ByteArray) (h : Eng.Heap) (ht : text s = true) : CallsH Tryz.prog 46 #[.string s] h (fun v h' => v = .string (signS s) ∧ h' = h) := by
  obtain ⟨⟨h1, h12⟩, hb⟩ := (text_iff s).1 ht
  (refine CallsH_of_exec Tryz.func46 rfl bod46 ?_; simp only [Tryz.ntmps46, Tryz.results46, coreS, stK_some, splice, Value.cells, Value.oneCell', Nat.reduceAdd, Nat.reduceSub, Nat.reduceMul, Nat.reduceLeDiff, Int.reduceEq, Nat.reduceEqDiff, S1Fs46])
  refine WP_loopI [3, 4, 5, 6, 7, 8, 9, 10, 11, 12, 13, 14, 15, 16, 17, 18, 19, 20, 21, 22, 23, 24, 25, 26] (fun g h' => h' = h ∧ ∃ i : Nat, i ≤ s.size ∧ g 4 = .int .i64 i ∧ g 3 = .int .i64 (sumTo s i)) (fun g _ => match g 4 with | .int _ q => s.size - q.toNat | _ => 0) ⟨rfl, 0, by omega, rfl, rfl⟩ ?_
  rintro g h' ⟨rfl, i, hin, hg4, hg3⟩
  by_cases hi : i < s.size
  · have hn := sum_next s i
    have hle := sumTo_le s i (by omega)
    have hle1 := sumTo_le s (i + 1) (by omega)
    have hs1 : sumTo s (i + 1) = sumTo s i + (i + 1) * dv (s.data.getD i 0) := rfl
    by_cases hbl : ((s.data.getD i 0).toNat : Int) = 32
    · have hd := dv_blank hbl
      rw [hd] at hn hs1
      have hn' : ((i : Int) + 1) * 10 = (((i + 1) * 10 : Nat) : Int) := hn
      simp only [hg4, hg3, hbl, hn', Int.toNat_natCast, decide_true, Bool.not_true, coreS, Value.cells, Value.oneCell', Nat.reduceAdd, Nat.reduceSub, Nat.reduceMul, Nat.reduceLeDiff, Int.reduceEq, Nat.reduceEqDiff, S1Fs46]
      refine ⟨fun _ => ⟨⟨by omega, by omega⟩, ?_⟩, fun hge => absurd (by omega) hge⟩
      refine ⟨by rw [inK_i64]; omega, by rw [inK_i64]; omega, by rw [inK_i64]; omega, by rw [inK_i64]; omega, roundK_mk (by kernel_rfl) ⟨rfl, i + 1, by omega, rfl, ?_⟩ ?_⟩
      · show Value.int .i64 _ = _
        rw [hs1]; congr 1
      · show s.size - ((i : Int) + 1).toNat < s.size - (i : Int).toNat
        omega
    · obtain ⟨hd, hd1, hd2⟩ := dv_digit hbl (hb i hi)
      simp only [hg4, hg3, hbl, hd, hn, Int.toNat_natCast, decide_false, Bool.not_false, coreS, Value.cells, Value.oneCell', Nat.reduceAdd, Nat.reduceSub, Nat.reduceMul, Nat.reduceLeDiff, Int.reduceEq, Nat.reduceEqDiff, S1Fs46]
      refine ⟨fun _ => ⟨⟨by omega, by omega⟩, ⟨by omega, by omega⟩, ?_⟩, fun hge => absurd (by omega) hge⟩
      refine ⟨by rw [inK_u8]; omega, by rw [inK_i64]; omega, by rw [inK_i64]; omega, by rw [inK_i64]; omega, by rw [inK_i64]; omega, by rw [inK_i64]; omega, roundK_mk (by kernel_rfl) ⟨rfl, i + 1, by omega, rfl, ?_⟩ ?_⟩
      · show Value.int .i64 _ = _
        rw [hs1]; congr 1
      · show s.size - ((i : Int) + 1).toNat < s.size - (i : Int).toNat
        omega
  · have hm := mod_int (sumTo s i) 13
    have hm' : ((sumTo s i : Nat) : Int).tmod 13 = ((sumTo s i % 13 : Nat) : Int) := hm
    have hr : sumTo s i % 13 < 13 := Nat.mod_lt _ (by decide)
    simp only [hg4, hg3, hm', cvW_int_str, Int.toNat_natCast, coreS, Value.cells, Value.oneCell', Nat.reduceAdd, Nat.reduceSub, Nat.reduceMul, Nat.reduceLeDiff, Int.reduceEq, Nat.reduceEqDiff, S1Fs46]
    refine ⟨fun hlt => absurd hlt (by omega), fun _ => ⟨by decide, by rw [inK_i64]; omega, by rw [inK_i32]; omega, ?_⟩⟩
    refine conv_int_strT (q := .i32) (n := 97 + ((sumTo s i % 13 : Nat) : Int)) Tryz.underlying21 Tryz.underlying9 (by rfl) ?_
    simp only [coreS, Value.cells, Value.oneCell', Nat.reduceAdd, Nat.reduceSub, Nat.reduceMul, Nat.reduceLeDiff, Int.reduceEq, Nat.reduceEqDiff, S1Fs46]
    obtain rfl : i = s.size := by omega
    rw [sign_enc _ hr]
    rfl
theorem isText84 (s : ByteArray) (h : Eng.Heap) (hs : s.size ≤ 9223372036854775807) : CallsH Tryz.prog 84 #[.string s] h (fun v h' => v = .bool (text s) ∧ h' = h) := by
  (refine CallsH_of_exec Tryz.func84 rfl bod84 ?_; simp only [Tryz.ntmps84, Tryz.results84, coreS, stK_some, splice, Value.cells, Value.oneCell', Nat.reduceAdd, Nat.reduceSub, Nat.reduceMul, Nat.reduceLeDiff, Int.reduceEq, Nat.reduceEqDiff, Tryz.underlying9])
  refine WP_loopI [2, 3, 4, 5, 6, 7, 8, 9, 10, 11, 12, 13, 14, 15, 16, 17, 18, 19, 20, 21, 22, 23, 24, 25] (fun g h' => h' = h ∧ ∃ i : Nat, i ≤ s.size ∧ g 3 = .int .i64 i ∧ ∀ j, j < i → txt (s.data.getD j 0) = true) (fun g _ => match g 3 with | .int _ q => s.size - q.toNat | _ => 0) ⟨rfl, 0, by omega, rfl, fun j hj => by omega⟩ ?_
  rintro g h' ⟨rfl, i, hin, hg, hno⟩
  by_cases hi : i < s.size
  · have next : txt (s.data.getD i 0) = true → ∀ j, j < i + 1 → txt (s.data.getD j 0) = true := fun h j hj => by
      by_cases hji : j = i
      · subst hji; exact h
      · exact hno j (by omega)
    have bad : txt (s.data.getD i 0) = false → text s = false := fun h => by
      rw [Bool.eq_false_iff]
      intro hh
      rw [((text_iff s).1 hh).2 i hi] at h
      cases h
    by_cases hbl : ((s.data.getD i 0).toNat : Int) = 32
    · simp only [hg, hbl, gd_none, Int.toNat_natCast, decide_true, Bool.not_true, coreS, Value.cells, Value.oneCell', Nat.reduceAdd, Nat.reduceSub, Nat.reduceMul, Nat.reduceLeDiff, Int.reduceEq, Nat.reduceEqDiff, Tryz.underlying9]
      refine ⟨fun _ => ⟨⟨by omega, by omega⟩, ?_⟩, fun hge => absurd (by omega) hge⟩
      refine ⟨by rw [inK_i64]; omega, roundK_mk (by kernel_rfl) ⟨rfl, i + 1, by omega, rfl, next ?_⟩ ?_⟩
      · have : s.data.getD i 0 = 32 := UInt8.toNat_inj.1 (by simpa using (by omega : (s.data.getD i 0).toNat = 32))
        rw [this]; rfl
      · show s.size - ((i : Int) + 1).toNat < s.size - (i : Int).toNat
        omega
    · have hb : ¬ s.data.getD i 0 = 32 := fun e => hbl (by rw [e]; rfl)
      have hbb : (s.data.getD i 0 == 32) = false := by simpa using hb
      by_cases hlo : ((s.data.getD i 0).toNat : Int) < 48
      · simp only [hg, hbl, hlo, gd_none, Int.toNat_natCast, decide_true, decide_false, Bool.not_false, coreS, Value.cells, Value.oneCell', Nat.reduceAdd, Nat.reduceSub, Nat.reduceMul, Nat.reduceLeDiff, Int.reduceEq, Nat.reduceEqDiff, Tryz.underlying9]
        refine ⟨fun _ => ⟨⟨by omega, by omega⟩, ⟨by omega, by omega⟩, ?_⟩, fun hge => absurd (by omega) hge⟩
        rw [bad (by rw [txt, hbb, decide_eq_false (by omega)]; rfl)]
      · by_cases hhi : (57 : Int) < ((s.data.getD i 0).toNat : Int)
        · simp only [hg, hbl, hlo, hhi, gd_none, Int.toNat_natCast, decide_true, decide_false, Bool.not_false, coreS, Value.cells, Value.oneCell', Nat.reduceAdd, Nat.reduceSub, Nat.reduceMul, Nat.reduceLeDiff, Int.reduceEq, Nat.reduceEqDiff, Tryz.underlying9]
          refine ⟨fun _ => ⟨⟨by omega, by omega⟩, ⟨by omega, by omega⟩, ⟨by omega, by omega⟩, ?_⟩, fun hge => absurd (by omega) hge⟩
          rw [bad (by rw [txt, hbb, decide_eq_true (by omega), decide_eq_false (by omega)]; rfl)]
        · simp only [hg, hbl, hlo, hhi, gd_none, Int.toNat_natCast, decide_true, decide_false, Bool.not_false, coreS, Value.cells, Value.oneCell', Nat.reduceAdd, Nat.reduceSub, Nat.reduceMul, Nat.reduceLeDiff, Int.reduceEq, Nat.reduceEqDiff, Tryz.underlying9]
          refine ⟨fun _ => ⟨⟨by omega, by omega⟩, ⟨by omega, by omega⟩, ⟨by omega, by omega⟩, ?_⟩, fun hge => absurd (by omega) hge⟩
          refine ⟨by rw [inK_i64]; omega, roundK_mk (by kernel_rfl) ⟨rfl, i + 1, by omega, rfl, next ?_⟩ ?_⟩
          · rw [txt, decide_eq_true (by omega), decide_eq_true (by omega), Bool.and_self, Bool.or_true]
          · show s.size - ((i : Int) + 1).toNat < s.size - (i : Int).toNat
            omega
  · have ha : ∀ j, j < s.size → txt (s.data.getD j 0) = true := fun j hj => hno j (by omega)
    have e1 : text s = decide (1 ≤ s.size ∧ s.size ≤ 12) := by
      rw [Bool.eq_iff_iff, text_iff, decide_eq_true_eq]
      exact ⟨fun h => h.1, fun h => ⟨h, ha⟩⟩
    rw [e1]
    have h9 : ¬ (i : Int) < s.size := by omega
    by_cases g1 : (1 : Int) ≤ s.size
    · have e2 : decide (1 ≤ s.size ∧ s.size ≤ 12) = decide ((s.size : Int) ≤ 12) := decide_eq_decide.2 ⟨fun h => by omega, fun h => by omega⟩
      rw [e2]
      simp only [hg, h9, g1, decide_true, decide_false, coreS, Value.cells, Value.oneCell', Nat.reduceAdd, Nat.reduceSub, Nat.reduceMul, Nat.reduceLeDiff, Int.reduceEq, Nat.reduceEqDiff, Tryz.underlying9]
    · have e2 : decide (1 ≤ s.size ∧ s.size ≤ 12) = false := decide_eq_false (by omega)
      rw [e2]
      simp only [hg, h9, g1, decide_true, decide_false, coreS, Value.cells, Value.oneCell', Nat.reduceAdd, Nat.reduceSub, Nat.reduceMul, Nat.reduceLeDiff, Int.reduceEq, Nat.reduceEqDiff, Tryz.underlying9]
end Go.Proofs.YtepaekbjoombpaaGreatDoor
