/- Texts joined by pack.py: lemmas for YtafemfjhflfdeaaDoorKnown. No condition. -/
import Derived.Test.YtafemfjhflfdeaaDoorPB10
set_option linter.unusedSimpArgs false
set_option linter.unusedVariables false
set_option linter.defProp false
section
namespace Go.Proofs.YtafemfjhflfdeaaDoor
open Go Go.Proofs Go.Eng Go.Run Tab
set_option maxRecDepth 100000
set_option linter.unusedSimpArgs false
set_option linter.unusedVariables false
set_option linter.defProp false
set_option maxHeartbeats 4000000
set_option linter.defProp false
def H29Fs37 := (And.intro (And.intro (And.intro @agg24 (And.intro @agg45 @by3)) (And.intro @inf24 (And.intro @inf3 @inf45))) (And.intro (And.intro @okf45 (And.intro @sz24 @sz3)) (And.intro (And.intro @sz45 @zero3) (And.intro @zero45 @Tryd.underlying22))))
def H29Fs74 := (And.intro (And.intro (And.intro (And.intro @agg22 @agg3) (And.intro @agg45 (And.intro @agg97 @by45))) (And.intro (And.intro @fo112_0 @fo24_0) (And.intro @inf22 (And.intro @inf3 @inf45)))) (And.intro (And.intro (And.intro @inf97 @sz22) (And.intro @sz3 (And.intro @sz45 @sz97))) (And.intro (And.intro @zero45 @zero97) (And.intro @Tryd.underlying22 (And.intro @Tryd.underlying97 @Tryd.underlying123)))))
theorem app123 {h : Eng.Heap} {er : Env} {ty : TypeId} {m0 : Nat} {x y : Operand} {a b : Option Addr} {len cap m c : Nat} {xs ys : List Rt} {K : Value → Eng.Heap → Prop} (hx : ev er x = .slice a len cap) (hy : ev er y = .slice b m c) (O : OwnV m0 h 45 2 a len cap (ratsC xs)) (h0h : m0 ≤ h.size) (I : Row h b (ratsC ys)) (hm : ys.length = m) (hb : len + m ≤ 1000)
    (H : ∀ a' cap' h', OwnV m0 h' 45 2 a' (len + m) cap' (ratsC (xs ++ ys)) → App h h' a a' → K (.slice a' (len + m) cap') h') : opSem Tryd.prog (.call ⟨.builtin .append, #[x, y], #[123, 123]⟩) ty er h K :=
  append_valsT Tryd.underlying123 Tryd.underlying123 inf45 sz45 zero45 (by rfl) hx hy O h0h I (by rw [ratsC_length, hm]) (fun u hu => by
    simp only [ratsC, List.mem_flatMap, rtC] at hu
    obtain ⟨e, _, hu⟩ := hu
    simp at hu
    rcases hu with rfl | rfl <;> rfl) (by omega) (by rw [by45]; omega) (fun a' cap' h' O' A => H a' cap' h' (by rw [ratsC_append]; exact O') A)
theorem App.othV {h h' : Eng.Heap} {a a' : Option Addr} {el : TypeId} {s len cap : Nat} {xs : List Value} {m c : Nat} {o : Obj} (A : App h h' a a') (O : OwnV m h el s a len cap xs) (hc : h[c]? = some o) (hne : ∀ cur, o ≠ .cells cur el (0, 0)) : h'[c]? = some o :=
  (A.old c (lt_of_get hc) fun p hp hpc => by
    rcases O.ok with ⟨h1, _⟩ | ⟨g, cur, h1, _, h3, _⟩
    · rw [h1] at hp; cases hp
    · rw [h1] at hp; cases hp
      subst hpc
      rw [hc] at h3
      exact hne cur (Option.some.inj h3)).trans hc
theorem OwnV.updO {h h' : Eng.Heap} {a : Option Addr} {el : TypeId} {s len cap : Nat} {xs : List Value} {m c : Nat} {o : Obj} (O : OwnV m h el s a len cap xs) (u : Upd h h' c) (hc : h[c]? = some o) (hne : ∀ cur, o ≠ .cells cur el (0, 0)) : OwnV m h' el s a len cap xs :=
  O.keep fun p hp => u.old _ fun hpc => by
    rcases O.ok with ⟨h1, _⟩ | ⟨g, cur, h1, _, h3, _⟩
    · rw [h1] at hp; cases hp
    · rw [h1] at hp; cases hp
      subst hpc
      rw [hc] at h3
      exact hne cur (Option.some.inj h3)
theorem rtX_length (o : OV) (i h k : Nat) : (o.rtX i h k).length ≤ 1 := by unfold OV.rtX; split <;> simp
theorem rtH_length (o : OV) (i h : Nat) : ∀ k, (o.rtH i h k).length ≤ k
  | 0 => by simp [OV.rtH]
  | k + 1 => by rw [OV.rtH_succ, List.length_append]; have := rtH_length o i h k; have := rtX_length o i h (k + 1); omega
theorem rtL_length (o : OV) (i : Nat) : ∀ h, (o.rtL i h).length ≤ h * o.n
  | 0 => by simp [OV.rtL]
  | h + 1 => by rw [OV.rtL_succ, List.length_append, Nat.succ_mul]; have := rtL_length o i h; have := rtH_length o i h o.n; omega
theorem far_st {n i : Nat} (hn : n ≤ 16) (hi : i < n) : (farI 16).set i 0 = pad ((List.replicate n OV.far).set i 0) := by
  rw [farI_pad hn, ← pad_set (by simpa using hi)]; rfl
theorem bk_small {o : OV} (ok : o.ok) {j k i : Nat} (hj : j < o.n) (hk : k ≤ 40) (hi : i < o.n) (h : (o.bk j k).getD i 0 < OV.far) : (o.bk j k).getD i 0 ≤ 1000 := by
  have h1 := OV.bk_bd ok hj k hk i hi
  have h16 := ok.n16
  have : (k + 1) * o.n ≤ 41 * 16 := Nat.mul_le_mul (by omega) h16
  omega
theorem rt_small {o : OV} (ok : o.ok) {i : Nat} : ∀ y ∈ o.rtL i o.n, y.1 ≤ 1000000 ∧ y.2 ≤ 1000000 := by
  intro y hy
  rw [OV.rtL, List.mem_flatMap] at hy
  obtain ⟨h, hh, hy⟩ := hy
  rw [OV.rtH, List.mem_flatMap] at hy
  obtain ⟨k, hk, hy⟩ := hy
  have hh := List.mem_range.1 hh
  have hk := List.mem_range.1 hk
  have h16 := ok.n16
  unfold OV.rtX at hy
  split at hy
  · rename_i hb
    rw [List.mem_singleton] at hy
    subst hy
    simp only [OV.isBk, Bool.and_eq_true, decide_eq_true_eq] at hb
    have := bk_small ok hh (by omega) hh hb.1
    refine ⟨Nat.le_trans (Nat.div_le_self _ _) (by omega), Nat.le_trans (Nat.div_le_self _ _) (by omega)⟩
  · cases hy
theorem rate74 (m : MV) (gd : m.Good) (hn16 : m.casts.length ≤ 16) (b i0 : Nat) (hi0 : i0 < m.casts.length) (h : Eng.Heap) (hm : m.ok h) (ho : Oven h b m) (hlw : (m.ov.lw m.casts.length (i0, i0)).isSome) :
    CallsH Tryd.prog 74 #[.pointer (some ⟨b, 0, none⟩), .int .i64 i0] h (fun r h' => r = ratV (m.ov.rate i0) ∧ Ext h h') := by
  have ho' : h[b]? = some (.cells #[.slice m.a m.casts.length m.ca, .slice m.b m.waits.length m.cb, .int .i64 m.lo, .int .i64 m.hi] 112) := ho
  have hcl := hm.cl
  have hnn : m.ov.n = m.casts.length := rfl
  have x0 : Ext h (h.push (.cells #[.int .i64 0, .int .i64 0] 45)) := (Ext.refl h).push _
  have g0 := push_new (h := h) (o := .cells #[.int .i64 0, .int .i64 0] 45)
  (refine CallsH_of_exec Tryd.func74 rfl bod74 ?_; simp only [Tryd.ntmps74, Tryd.results74, coreS, stK_some, splice, Value.cells, Value.oneCell', Nat.reduceAdd, Nat.reduceSub, Nat.reduceMul, Nat.reduceLeDiff, Int.reduceEq, Nat.reduceEqDiff, H29Fs74])
  have hbl := lt_of_get ho'
  simp only [show ¬ b = h.size by omega, if_false, ho', coreS, Value.cells, Value.oneCell', Nat.reduceAdd, Nat.reduceSub, Nat.reduceMul, Nat.reduceLeDiff, Int.reduceEq, Nat.reduceEqDiff, H29Fs74]
  refine WP_loopI [5, 6, 7, 8, 9, 16, 17, 18, 19, 20, 21, 22, 23, 24, 25, 26, 27, 28, 29, 30, 31, 32, 33, 34, 35, 36, 37, 38, 39, 40, 41, 42, 43, 44, 45, 46, 47, 48, 49, 50, 51, 52, 53, 54, 55, 56, 57, 58, 59, 60, 61] (fun g h' => ∃ (hh len cap : Nat) (a : Option Addr), hh ≤ m.casts.length ∧ g 16 = .int .i64 hh ∧ g 5 = .slice a len cap ∧ len = (m.ov.rtL i0 hh).length ∧ OwnV (h.size + 1) h' 45 2 a len cap (ratsC (m.ov.rtL i0 hh)) ∧ h'[h.size]? = some (.cells #[.int .i64 0, .int .i64 0] 45) ∧ h.size + 1 ≤ h'.size ∧ Ext h h') (fun g _ => match g 16 with | .int _ q => m.casts.length - q.toNat | _ => 0) ⟨0, 0, 0, none, by omega, rfl, rfl, rfl, OwnV.nil _ _ _ _, g0, by simp, x0⟩ ?_
  clear g0 x0
  rintro g h1 ⟨hh, len, cap, a, hhn, hg16, hg5, hlen, O, g0, hs1, y1⟩
  have hlb := rtL_length m.ov i0 hh
  by_cases hlt : hh < m.casts.length
  · have hlt2 : (hh : Int) < m.casts.length := by omega
    simp only [hg16, hlt2, decide_true, coreS, Value.cells, Value.oneCell', Nat.reduceAdd, Nat.reduceSub, Nat.reduceMul, Nat.reduceLeDiff, Int.reduceEq, Nat.reduceEqDiff, H29Fs74]
    have tz := push_new (h := h1) (o := .cells (Eng.ints (List.replicate 16 0)).toArray 97)
    have xz : Ext h1 (h1.push (.cells (Eng.ints (List.replicate 16 0)).toArray 97)) := (Ext.refl h1).push _
    refine WP_loopI [8, 19, 20, 21, 22, 23, 24] (fun g h' => ∃ j : Nat, j ≤ 16 ∧ g 19 = .int .i64 j ∧ h'[h1.size]? = some (.cells (Eng.ints (farI j)).toArray 97) ∧ h'.size = h1.size + 1 ∧ Ext h1 h') (fun g _ => match g 19 with | .int _ q => 16 - q.toNat | _ => 0) ⟨0, by omega, rfl, tz, by simp, xz⟩ ?_
    clear tz xz
    rintro g2 h2 ⟨j, hj, hg19, t2, hs2, x2⟩
    by_cases hj16 : j < 16
    · have hj2 : (j : Int) < 16 := by omega
      simp only [hg19, hj2, t2, decide_true, coreS, Value.cells, Value.oneCell', Nat.reduceAdd, Nat.reduceSub, Nat.reduceMul, Nat.reduceLeDiff, Int.reduceEq, Nat.reduceEqDiff, H29Fs74]
      refine ⟨⟨by omega, by omega⟩, ?_⟩
      refine stK_int t2 (by rw [farI_length hj]; omega) fun h3 g3 u3 => ?_
      have e3 : (farI j).set j 1048576 = farI (j + 1) := farI_set hj16
      rw [e3] at g3
      simp only [coreS, Value.cells, Value.oneCell', Nat.reduceAdd, Nat.reduceSub, Nat.reduceMul, Nat.reduceLeDiff, Int.reduceEq, Nat.reduceEqDiff, H29Fs74]
      refine ⟨by rw [inK_i64]; omega, roundK_mk (by kernel_rfl) ⟨j + 1, by omega, rfl, g3, by rw [u3.size]; exact hs2, u3.ext x2 (Nat.le_refl _)⟩ ?_⟩
      show 16 - ((j : Int) + 1).toNat < 16 - (j : Int).toNat
      omega
    · have hj2 : ¬ (j : Int) < 16 := by omega
      obtain rfl : j = 16 := by omega
      simp only [hg19, hj2, t2, decide_false, coreS, Value.cells, Value.oneCell', Nat.reduceAdd, Nat.reduceSub, Nat.reduceMul, Nat.reduceLeDiff, Int.reduceEq, Nat.reduceEqDiff, H29Fs74]
      refine ⟨⟨by omega, by omega⟩, ?_⟩
      refine stK_int t2 (by rw [farI_length hj]; omega) fun h3 g3 u3 => ?_
      rw [far_st hn16 hlt] at g3
      have g3 : h3[h1.size]? = some (.cells (Eng.ints (pad (m.ov.st hh))).toArray 97) := g3
      have x3 : Ext h1 h3 := u3.ext x2 (Nat.le_refl _)
      have hs3 : h3.size = h1.size + 1 := by rw [u3.size]; exact hs2
      have hstl : (m.ov.st hh).length = m.casts.length := by simp [OV.st]; rfl
      simp only [g3, pad_ces (v := m.ov.st hh) (by omega), coreS, Value.cells, Value.oneCell', Nat.reduceAdd, Nat.reduceSub, Nat.reduceMul, Nat.reduceLeDiff, Int.reduceEq, Nat.reduceEqDiff, H29Fs74]
      refine CallsH.mono (cooled92 m gd hn16 b (m.ov.st hh) hstl (fun q hq => by
        rw [OV.st, OV.getD_set' (by rw [List.length_replicate]; exact hlt)]
        split
        · omega
        · simp [List.getD_eq_getElem?_getD, hnn, hq]) h3 (hm.ext (y1.trans x3)) ((y1.trans x3).get ho')) ?_
      rintro r h4 ⟨rfl, x4⟩
      have hbl0 := OV.bk_length (o := m.ov) hh 0
      simp only [coreS, Value.cells, Value.oneCell', Nat.reduceAdd, Nat.reduceSub, Nat.reduceMul, Nat.reduceLeDiff, Int.reduceEq, Nat.reduceEqDiff, H29Fs74]
      refine st_hts (cur := Eng.ints (pad (m.ov.st hh))) (pad_length (v := m.ov.bk hh 0) (by omega)) (by rw [Eng.ints_length, pad_length (by omega)]) (x4.get g3) fun h5 g5 u5 => ?_
      have x5 : Ext h1 h5 := u5.ext (x3.trans x4) (Nat.le_refl _)
      simp only [coreS, Value.cells, Value.oneCell', Nat.reduceAdd, Nat.reduceSub, Nat.reduceMul, Nat.reduceLeDiff, Int.reduceEq, Nat.reduceEqDiff, H29Fs74]
      refine WP_loopI [5, 9, 30, 31, 32, 33, 34, 35, 36, 37, 38, 39, 40, 41, 42, 43, 44, 45, 46, 47, 48, 49, 50, 51, 52, 53, 54, 55, 56, 57, 58, 59, 60] (fun g h' => ∃ (k len' cap' : Nat) (a' : Option Addr), 1 ≤ k ∧ k ≤ m.casts.length + 1 ∧ g 9 = .int .i64 k ∧ g 5 = .slice a' len' cap' ∧ len' = (m.ov.rtL i0 hh ++ m.ov.rtH i0 hh (k - 1)).length ∧ OwnV (h.size + 1) h' 45 2 a' len' cap' (ratsC (m.ov.rtL i0 hh ++ m.ov.rtH i0 hh (k - 1))) ∧ h'[h1.size]? = some (.cells (Eng.ints (pad (m.ov.bk hh (k - 1)))).toArray 97) ∧ h'[h.size]? = some (.cells #[.int .i64 0, .int .i64 0] 45) ∧ Ext h h' ∧ h1.size + 1 ≤ h'.size) (fun g _ => match g 9 with | .int _ q => m.casts.length + 1 - q.toNat | _ => 0) ⟨1, len, cap, a, by omega, by omega, rfl, hg5, by simpa [OV.rtH] using hlen, by simpa [OV.rtH] using O.ext x5, g5, x5.get g0, y1.trans x5, by have := x5.size; have := x4.size; have := u5.size; omega⟩ ?_
      clear g5 u5 x5 g3 u3 t2 x2 x3 x4
      rintro g6 h6 ⟨k, len', cap', a', hk1, hkn, hg9, hg5', hlen', O', t6, g06, y6, hs6⟩
      have hrl := rtH_length m.ov i0 hh (k - 1)
      have ho6 := y6.get ho'
      rw [List.length_append] at hlen'
      by_cases hkl : k ≤ m.casts.length
      · have hk2 : (k : Int) ≤ m.casts.length := by omega
        obtain ⟨k0, rfl⟩ : ∃ k0, k = k0 + 1 := ⟨k - 1, by omega⟩
        rw [Nat.add_sub_cancel] at hlen' O' t6 hrl
        have hbl := OV.bk_length (o := m.ov) hh k0
        have hbl1 := OV.bk_length (o := m.ov) hh (k0 + 1)
        simp only [hg9, hg5', hk2, ho6, t6, pad_ces (v := m.ov.bk hh k0) (by omega), decide_true, coreS, Value.cells, Value.oneCell', Nat.reduceAdd, Nat.reduceSub, Nat.reduceMul, Nat.reduceLeDiff, Int.reduceEq, Nat.reduceEqDiff, H29Fs74]
        refine CallsH.mono (relaxed93 m gd hn16 b (m.ov.bk hh k0) hbl (fun q hq => by have := OV.bk_bd gd.ok hlt k0 (by omega) q hq; have : (k0 + 1) * m.ov.n ≤ 41 * 16 := Nat.mul_le_mul (by omega) (by omega); rw [OV.far_eq] at *; omega) h6 (hm.ext y6) ho6) ?_
        rintro r h7 ⟨rfl, x7⟩
        simp only [coreS, Value.cells, Value.oneCell', Nat.reduceAdd, Nat.reduceSub, Nat.reduceMul, Nat.reduceLeDiff, Int.reduceEq, Nat.reduceEqDiff, H29Fs74]
        refine st_hts (xs := pad (m.ov.bk hh (k0 + 1))) (cur := Eng.ints (pad (m.ov.bk hh k0))) (pad_length (by omega)) (by rw [Eng.ints_length, pad_length (by omega)]) (x7.get t6) fun h8 g8 u8 => ?_
        have y8 : Ext h h8 := u8.ext (y6.trans x7) (by omega)
        have O8 := OwnV.updO (O'.ext x7) u8 (x7.get t6) (fun cur hh => by cases hh)
        have g08 := u8.get (x7.get g06) (by omega)
        have d8 := pad_cell (v := m.ov.bk hh (k0 + 1)) (by omega) (i := hh) (by omega)
        have hs8 : h8.size = h7.size := u8.size
        have hs7 := x7.size
        by_cases hf : (m.ov.bk hh (k0 + 1)).getD hh 0 < OV.far
        · have hf2 : (((m.ov.bk hh (k0 + 1)).getD hh 0 : Nat) : Int) < 1048576 := by rw [OV.far_eq] at hf; omega
          have hsm := bk_small gd.ok hlt (by omega) hlt hf
          simp only [g8, d8, hf2, gd_none, Int.toNat_natCast, decide_true, coreS, Value.cells, Value.oneCell', Nat.reduceAdd, Nat.reduceSub, Nat.reduceMul, Nat.reduceLeDiff, Int.reduceEq, Nat.reduceEqDiff, H29Fs74]
          refine ⟨⟨by omega, by omega⟩, ?_⟩
          refine CallsH.mono (reaches94 m gd hn16 b i0 hh hi0 hlt h8 (hm.ext y8) (y8.get ho')) ?_
          rintro r h9 ⟨rfl, x9⟩
          cases hre : (m.ov.rch i0).getD hh false with
          | true =>
            have hX : m.ov.rtX i0 hh (k0 + 1) = [OV.byP ((m.ov.bk hh (k0 + 1)).getD hh 0) (k0 + 1)] := by rw [OV.rtX, if_pos]; rw [OV.isBk, hre, decide_eq_true hf]; rfl
            simp only [x9.get g8, d8, Int.toNat_natCast, decide_true, coreS, Value.cells, Value.oneCell', Nat.reduceAdd, Nat.reduceSub, Nat.reduceMul, Nat.reduceLeDiff, Int.reduceEq, Nat.reduceEqDiff, H29Fs74]
            refine ⟨⟨by omega, by omega⟩, ?_⟩
            have ek : ((k0 + 1 : Nat) : Int) = ((k0 + 1 : Nat) : Int) := rfl
            refine CallsH.mono (by71 ((m.ov.bk hh (k0 + 1)).getD hh 0) (k0 + 1) h9 (by omega) (by omega) (by omega)) ?_
            rintro r h10 ⟨rfl, x10⟩
            simp only [splice, coreS, Value.cells, Value.oneCell', Nat.reduceAdd, Nat.reduceSub, Nat.reduceMul, Nat.reduceLeDiff, Int.reduceEq, Nat.reduceEqDiff, H29Fs74]
            have hrow : Row (h10.push (.cells #[.int .i64 ((OV.byP ((m.ov.bk hh (k0 + 1)).getD hh 0) (k0 + 1)).1 : Int), .int .i64 ((OV.byP ((m.ov.bk hh (k0 + 1)).getD hh 0) (k0 + 1)).2 : Int)] 45)) (some ⟨h10.size, 0, none⟩) (ratsC [OV.byP ((m.ov.bk hh (k0 + 1)).getD hh 0) (k0 + 1)]) := Row.block (c := ratsC [OV.byP ((m.ov.bk hh (k0 + 1)).getD hh 0) (k0 + 1)]) push_new
            have O10 := (O8.ext (x9.trans x10)).ext ((Ext.refl h10).push (.cells #[.int .i64 ((OV.byP ((m.ov.bk hh (k0 + 1)).getD hh 0) (k0 + 1)).1 : Int), .int .i64 ((OV.byP ((m.ov.bk hh (k0 + 1)).getD hh 0) (k0 + 1)).2 : Int)] 45))
            have hs10 := (x9.trans x10).size
            have hmul : hh * m.ov.n ≤ 16 * 16 := Nat.mul_le_mul (by omega) (by omega)
            refine ⟨by omega, ?_⟩
            refine app123 (m0 := h.size + 1) (len := len') (m := 1) (by rfl) (by rfl) O10 (by rw [push_size]; omega) hrow rfl (by omega) fun a11 c11 h11 O11 A11 => ?_
            have hHs : m.ov.rtH i0 hh (k0 + 1) = m.ov.rtH i0 hh k0 ++ [OV.byP ((m.ov.bk hh (k0 + 1)).getD hh 0) (k0 + 1)] := by rw [OV.rtH_succ, hX]
            rw [List.append_assoc, ← hHs] at O11
            have t11 := App.othV A11 O10 (push_old (x10.get (x9.get g8))) (fun cur hh => by cases hh)
            have g11 : h11[h.size]? = some (.cells #[.int .i64 0, .int .i64 0] 45) := (A11.old _ (by rw [push_size]; omega) fun p hp => by have := (O10.lt hp).2; omega).trans (push_old (x10.get (x9.get g08)))
            have y11 : Ext h h11 := ⟨by have := A11.size; rw [push_size] at this; have := y8.size; omega, fun q hq => (A11.old q (by rw [push_size]; omega) fun p hp => by have := (O10.lt hp).2; omega).trans (((y8.trans (x9.trans x10)).push _).old q hq)⟩
            have hs11 := A11.size
            rw [push_size] at hs11
            simp only [coreS, Value.cells, Value.oneCell', Nat.reduceAdd, Nat.reduceSub, Nat.reduceMul, Nat.reduceLeDiff, Int.reduceEq, Nat.reduceEqDiff, H29Fs74]
            refine ⟨by rw [inK_i64]; omega, roundK_mk (by kernel_rfl) ⟨k0 + 1 + 1, len' + 1, c11, a11, by omega, by omega, rfl, rfl, ?_, O11, t11, g11, y11, by omega⟩ ?_⟩
            · rw [Nat.add_sub_cancel, hHs, List.length_append, List.length_append, hlen']; rfl
            · show m.casts.length + 1 - (((k0 + 1 : Nat) : Int) + 1).toNat < m.casts.length + 1 - ((k0 + 1 : Nat) : Int).toNat
              omega
          | false =>
            have hX : m.ov.rtX i0 hh (k0 + 1) = [] := by rw [OV.rtX, if_neg]; rw [OV.isBk, hre, Bool.and_false]; decide
            simp only [coreS, Value.cells, Value.oneCell', Nat.reduceAdd, Nat.reduceSub, Nat.reduceMul, Nat.reduceLeDiff, Int.reduceEq, Nat.reduceEqDiff, H29Fs74]
            refine ⟨by rw [inK_i64]; omega, roundK_mk (by kernel_rfl) ⟨k0 + 1 + 1, len', cap', a', by omega, by omega, rfl, rfl, ?_, ?_, x9.get g8, x9.get g08, y8.trans x9, by have := x9.size; omega⟩ ?_⟩
            · rw [Nat.add_sub_cancel, OV.rtH_succ, hX, List.append_nil, List.length_append]; exact hlen'
            · rw [Nat.add_sub_cancel, OV.rtH_succ, hX, List.append_nil]; exact O8.ext x9
            · show m.casts.length + 1 - (((k0 + 1 : Nat) : Int) + 1).toNat < m.casts.length + 1 - ((k0 + 1 : Nat) : Int).toNat
              omega
        · have hf2 : ¬ (((m.ov.bk hh (k0 + 1)).getD hh 0 : Nat) : Int) < 1048576 := by rw [OV.far_eq] at hf; omega
          have hX : m.ov.rtX i0 hh (k0 + 1) = [] := by rw [OV.rtX, if_neg]; rw [OV.isBk, decide_eq_false hf, Bool.false_and]; decide
          simp only [g8, d8, hf2, gd_none, Int.toNat_natCast, decide_false, coreS, Value.cells, Value.oneCell', Nat.reduceAdd, Nat.reduceSub, Nat.reduceMul, Nat.reduceLeDiff, Int.reduceEq, Nat.reduceEqDiff, H29Fs74]
          refine ⟨⟨by omega, by omega⟩, by rw [inK_i64]; omega, roundK_mk (by kernel_rfl) ⟨k0 + 1 + 1, len', cap', a', by omega, by omega, rfl, rfl, ?_, ?_, g8, g08, y8, by omega⟩ ?_⟩
          · rw [Nat.add_sub_cancel, OV.rtH_succ, hX, List.append_nil, List.length_append]; exact hlen'
          · rw [Nat.add_sub_cancel, OV.rtH_succ, hX, List.append_nil]; exact O8
          · show m.casts.length + 1 - (((k0 + 1 : Nat) : Int) + 1).toNat < m.casts.length + 1 - ((k0 + 1 : Nat) : Int).toNat
            omega
      · have hk2 : ¬ (k : Int) ≤ m.casts.length := by omega
        obtain rfl : k = m.casts.length + 1 := by omega
        rw [Nat.add_sub_cancel] at hlen' O'
        simp only [hg9, hg5', hk2, ho6, decide_false, coreS, Value.cells, Value.oneCell', Nat.reduceAdd, Nat.reduceSub, Nat.reduceMul, Nat.reduceLeDiff, Int.reduceEq, Nat.reduceEqDiff, H29Fs74]
        refine ⟨by rw [inK_i64]; omega, roundK_mk (by kernel_rfl) ⟨hh + 1, len', cap', a', by omega, rfl, rfl, by rw [OV.rtL_succ, List.length_append]; exact hlen', by rw [OV.rtL_succ]; exact O', g06, by have := y6.size; omega, y6⟩ ?_⟩
        show m.casts.length - ((hh : Int) + 1).toNat < m.casts.length - (hh : Int).toNat
        omega
  · have hlt2 : ¬ (hh : Int) < m.casts.length := by omega
    obtain rfl : hh = m.casts.length := by omega
    simp only [hg16, hg5, hlt2, decide_false, coreS, Value.cells, Value.oneCell', Nat.reduceAdd, Nat.reduceSub, Nat.reduceMul, Nat.reduceLeDiff, Int.reduceEq, Nat.reduceEqDiff, H29Fs74]
    have hne := OV.rtL_some gd.ok hi0 hlw
    rw [hnn] at hne
    have hsm := rt_small gd.ok (i := i0)
    rw [hnn] at hsm
    cases hl : m.ov.rtL i0 m.casts.length with
    | nil => exact absurd hl hne
    | cons x xs =>
      rw [hl] at hlen O hsm
      have hr : m.ov.rate i0 = OV.bestQ x xs := by rw [OV.rate, hnn, hl]
      have hcap := O.cap
      refine CallsH.mono (best95 a len cap x xs h1 O.row (by rw [hlen]; rfl) (by rw [hlen]; simp) hcap (by have : m.casts.length * m.ov.n ≤ 16 * 16 := Nat.mul_le_mul hn16 (by omega); rw [hl] at hlb; omega) hsm) ?_
      rintro r h9 ⟨rfl, x9⟩
      simp only [x9.get g0, splice, coreS, Value.cells, Value.oneCell', Nat.reduceAdd, Nat.reduceSub, Nat.reduceMul, Nat.reduceLeDiff, Int.reduceEq, Nat.reduceEqDiff, H29Fs74]
      refine stK_abs (x9.get g0) (by simp) fun h10 g10 u10 => ?_
      simp only [splice] at g10
      simp only [g10, splice, coreS, Value.cells, Value.oneCell', Nat.reduceAdd, Nat.reduceSub, Nat.reduceMul, Nat.reduceLeDiff, Int.reduceEq, Nat.reduceEqDiff, H29Fs74]
      exact ⟨by rw [hr], u10.ext (y1.trans x9) (Nat.le_refl _)⟩
def rtV (m : MV) (x : Int) : Rt := if roE m x = 0 then m.ov.rate x.toNat else (0, 0)
theorem rate37 (m : MV) (x : Int) (h : Eng.Heap) (hm : m.ok h) :
    CallsH Tryd.prog 37 #[m.val, .int .i64 x] h (fun v h' => v = .tuple #[ratV (rtV m x), .int .i64 (roE m x)] ∧ Ext h h') := by
  have key : ∀ {e : Int} {P : Prop}, roE m x = e → e ≠ 0 → P → Value.tuple #[.agg #[.int .i64 0, .int .i64 0], .int .i64 e] = .tuple #[ratV (rtV m x), .int .i64 (roE m x)] ∧ P := by
    rintro e P rfl he hP
    exact ⟨by rw [rtV, if_neg he]; rfl, hP⟩
  (refine CallsH_of_exec Tryd.func37 rfl bod37 ?_; simp only [Tryd.ntmps37, Tryd.results37, coreS, stK_some, splice, Value.cells, Value.oneCell', Nat.reduceAdd, Nat.reduceSub, Nat.reduceMul, Nat.reduceLeDiff, Int.reduceEq, Nat.reduceEqDiff, H29Fs37])
  have x0 : Ext h ((h.push (.cells #[.slice m.a m.casts.length m.ca, .slice m.b m.waits.length m.cb, .int .i64 m.lo, .int .i64 m.hi] 24)).push (.cells #[.int .i64 0, .int .i64 0] 45)) := ((Ext.refl h).push _).push _
  have hx3 : ((((h.push (.cells #[.slice m.a m.casts.length m.ca, .slice m.b m.waits.length m.cb, .int .i64 m.lo, .int .i64 m.hi] 24)).push (.cells #[.int .i64 0, .int .i64 0] 45)).push (.cells #[.int .i64 x] 3)))[h.size + 1 + 1]? = some (.cells #[.int .i64 x] 3) := by
    rw [Array.getElem?_push, if_pos (by simp)]
  refine CallsH.mono (open56 m _ 1 1 [x] _ (hm.ext (x0.push _)) (intsV_one hx3) (by omega)) ?_
  rintro v h1 ⟨x1, h1'⟩
  have y1 := (x0.push _).trans x1
  have b1 := x1.get (push_old (pn1 (h := h)))
  rcases h1' with ⟨e0, b, rfl, ho, hbs⟩ | ⟨e0, rfl⟩
  · obtain ⟨i, rfl, hi, h16, gd⟩ := opn_in e0
    have eE : roE m i = if 0 ≤ moV m i then 22 else 0 := by rw [roE, if_neg (by simpa using e0)]; rfl
    simp only [decide_true, Bool.not_true, splice, coreS, Value.cells, Value.oneCell', Nat.reduceAdd, Nat.reduceSub, Nat.reduceMul, Nat.reduceLeDiff, Int.reduceEq, Nat.reduceEqDiff, H29Fs37]
    refine CallsH.mono (most68 m gd h16 b i hi h1 (hm.ext y1) ho) ?_
    rintro v h2 ⟨rfl, x2⟩
    have y2 := y1.trans x2
    have b2 := x2.get b1
    by_cases hp : 0 ≤ moV m i
    · rw [if_pos hp] at eE
      simp only [hp, b2, decide_true, splice, coreS, Value.cells, Value.oneCell', Nat.reduceAdd, Nat.reduceSub, Nat.reduceMul, Nat.reduceLeDiff, Int.reduceEq, Nat.reduceEqDiff, H29Fs37]
      refine stK_abs b2 (by simp) fun h3 g3 u3 => ?_
      simp only [splice] at g3
      simp only [g3, splice, coreS, Value.cells, Value.oneCell', Nat.reduceAdd, Nat.reduceSub, Nat.reduceMul, Nat.reduceLeDiff, Int.reduceEq, Nat.reduceEqDiff, H29Fs37]
      exact key eE (by omega) (u3.ext y2 (by omega))
    · rw [if_neg hp] at eE
      simp only [hp, decide_false, coreS, Value.cells, Value.oneCell', Nat.reduceAdd, Nat.reduceSub, Nat.reduceMul, Nat.reduceLeDiff, Int.reduceEq, Nat.reduceEqDiff, H29Fs37]
      refine CallsH.mono (rate74 m gd h16 b i hi h2 (hm.ext y2) (x2.get ho) (by obtain ⟨z, hz⟩ := mo_neg gd hi hp m.casts.length; rw [hz]; rfl)) ?_
      rintro v h3 ⟨rfl, x3⟩
      simp only [x3.get b2, splice, coreS, Value.cells, Value.oneCell', Nat.reduceAdd, Nat.reduceSub, Nat.reduceMul, Nat.reduceLeDiff, Int.reduceEq, Nat.reduceEqDiff, H29Fs37]
      refine stK_abs (x3.get b2) (by simp) fun h4 g4 u4 => ?_
      simp only [splice] at g4
      simp only [g4, splice, coreS, Value.cells, Value.oneCell', Nat.reduceAdd, Nat.reduceSub, Nat.reduceMul, Nat.reduceLeDiff, Int.reduceEq, Nat.reduceEqDiff, H29Fs37]
      exact ⟨by rw [rtV, if_pos eE, eE]; rfl, u4.ext (y2.trans x3) (by omega)⟩
  · have eE : roE m x = opn m [x] := by rw [roE, if_pos e0]
    simp only [e0, b1, decide_false, Bool.not_false, splice, coreS, Value.cells, Value.oneCell', Nat.reduceAdd, Nat.reduceSub, Nat.reduceMul, Nat.reduceLeDiff, Int.reduceEq, Nat.reduceEqDiff, H29Fs37]
    refine stK_abs b1 (by simp) fun h3 g3 u3 => ?_
    simp only [splice] at g3
    simp only [g3, splice, coreS, Value.cells, Value.oneCell', Nat.reduceAdd, Nat.reduceSub, Nat.reduceMul, Nat.reduceLeDiff, Int.reduceEq, Nat.reduceEqDiff, H29Fs37]
    exact key eE e0 (u3.ext y1 (by omega))
end Go.Proofs.YtafemfjhflfdeaaDoor
end
section
namespace Go.Proofs.YtafemfjhflfdeaaDoor
open Go Go.Proofs Go.Eng Go.Run Tab
set_option maxRecDepth 100000
set_option linter.unusedSimpArgs false
set_option linter.unusedVariables false
set_option linter.defProp false
set_option maxHeartbeats 4000000
set_option linter.defProp false
def H22Fs41 := (And.intro (And.intro (And.intro (And.intro @agg24 @agg3) (And.intro @agg54 @agg84)) (And.intro (And.intro @fo84_0 @fo84_1) (And.intro @fps54_0 (And.intro @fps54_1 @inf24)))) (And.intro (And.intro (And.intro @inf3 @inf54) (And.intro @inf84 (And.intro @okf54 @sz24))) (And.intro (And.intro @sz3 @sz54) (And.intro @sz84 (And.intro @zero54 @zero84)))))
def H22Fs43 := (And.intro (And.intro (And.intro @agg24 @agg54) (And.intro @agg84 (And.intro @inf24 @inf54))) (And.intro (And.intro @inf84 @sz24) (And.intro @sz54 (And.intro @sz84 @zero84))))
def H22Fs77 := (And.intro (And.intro (And.intro (And.intro @agg2 @agg22) (And.intro @agg24 (And.intro @agg84 @fo24_0))) (And.intro (And.intro @fo54_0 @fo54_1) (And.intro @fps84_0 (And.intro @fps84_1 @inf2)))) (And.intro (And.intro (And.intro @inf22 @inf24) (And.intro @inf84 (And.intro @okf84 @sz2))) (And.intro (And.intro @sz22 @sz24) (And.intro @sz84 (And.intro @zero84 @Tryd.underlying22)))))
abbrev rgV (lo hi : Int) : Value := .agg #[.int .i64 lo, .int .i64 hi]
def rgE (m : MV) (lo hi : Int) : Int := if chk m ≠ 0 then chk m else if lo < 0 ∨ hi < lo ∨ (m.casts.length : Int) ≤ hi then 3 else 0
theorem opn_nil (m : MV) : opn m [] = chk m := by
  unfold opn
  split
  · rfl
  · rename_i h1; rw [Classical.not_not.1 h1]; rfl
theorem ranged77 (m : MV) (lo hi : Int) (h : Eng.Heap) (hm : m.ok h) :
    CallsH Tryd.prog 77 #[m.val, rgV lo hi] h (fun v h' => Ext h h' ∧ ((rgE m lo hi = 0 ∧ ∃ b, v = .tuple #[.pointer (some ⟨b, 0, none⟩), rgV lo hi, .int .i64 0] ∧ Oven h' b m) ∨ (rgE m lo hi ≠ 0 ∧ v = .tuple #[.pointer none, rgV 0 0, .int .i64 (rgE m lo hi)]))) := by
  have hcl := hm.cl
  (refine CallsH_of_exec Tryd.func77 rfl bod77 ?_; simp only [Tryd.ntmps77, Tryd.results77, coreS, stK_some, splice, Value.cells, Value.oneCell', Nat.reduceAdd, Nat.reduceSub, Nat.reduceMul, Nat.reduceLeDiff, Int.reduceEq, Nat.reduceEqDiff, H22Fs77])
  simp only [show ¬ (h.size = h.size + 1 + 1) by omega, if_false, coreS, Value.cells, Value.oneCell', Nat.reduceAdd, Nat.reduceSub, Nat.reduceMul, Nat.reduceLeDiff, Int.reduceEq, Nat.reduceEqDiff, H22Fs77]
  have x0 : Ext h (((h.push (.cells #[.slice m.a m.casts.length m.ca, .slice m.b m.waits.length m.cb, .int .i64 m.lo, .int .i64 m.hi] 24)).push (.cells #[.int .i64 lo, .int .i64 hi] 54)).push (.cells #[.int .i64 0, .int .i64 0] 84)) := (((Ext.refl h).push _).push _).push _
  refine CallsH.mono (open56 m none 0 0 [] _ (hm.ext x0) (IntsV.nil _) (by omega)) ?_
  rintro v h1 ⟨x1, h1'⟩
  have y1 := x0.trans x1
  have b0 := x1.get (push_old (push_old (push_new (h := h))))
  have b1 := x1.get (push_old (pn1 (h := h)))
  have b2 : h1[h.size + 2]? = some (.cells #[.int .i64 0, .int .i64 0] 84) := x1.get (by rw [Array.getElem?_push, if_pos (by simp)])
  rw [opn_nil] at h1'
  rcases h1' with ⟨e0, b, rfl, ho, hbs⟩ | ⟨e0, rfl⟩
  · have key : lo < 0 ∨ hi < lo ∨ (m.casts.length : Int) ≤ hi → rgE m lo hi = 3 := fun h => by rw [rgE, if_neg (by omega), if_pos h]
    by_cases l1 : lo < 0
    case pos =>
      simp only [e0, b1, b2, l1, gd_none, decide_true, Bool.not_true, splice, coreS, Value.cells, Value.oneCell', Nat.reduceAdd, Nat.reduceSub, Nat.reduceMul, Nat.reduceLeDiff, Int.reduceEq, Nat.reduceEqDiff, H22Fs77]
      refine stK_abs b2 (by simp) fun h3 g3 u3 => ?_
      simp only [splice] at g3
      simp only [g3, splice, coreS, Value.cells, Value.oneCell', Nat.reduceAdd, Nat.reduceSub, Nat.reduceMul, Nat.reduceLeDiff, Int.reduceEq, Nat.reduceEqDiff, H22Fs77]
      have := key (.inl l1)
      exact ⟨u3.ext y1 (by omega), .inr ⟨by omega, by rw [this]⟩⟩
    by_cases l2 : hi < lo
    case pos =>
      simp only [e0, b1, b2, l1, l2, gd_none, decide_true, decide_false, Bool.not_true, splice, coreS, Value.cells, Value.oneCell', Nat.reduceAdd, Nat.reduceSub, Nat.reduceMul, Nat.reduceLeDiff, Int.reduceEq, Nat.reduceEqDiff, H22Fs77]
      refine stK_abs b2 (by simp) fun h3 g3 u3 => ?_
      simp only [splice] at g3
      simp only [g3, splice, coreS, Value.cells, Value.oneCell', Nat.reduceAdd, Nat.reduceSub, Nat.reduceMul, Nat.reduceLeDiff, Int.reduceEq, Nat.reduceEqDiff, H22Fs77]
      have := key (.inr (.inl l2))
      exact ⟨u3.ext y1 (by omega), .inr ⟨by omega, by rw [this]⟩⟩
    by_cases l3 : (m.casts.length : Int) ≤ hi
    case pos =>
      simp only [e0, b0, b1, b2, l1, l2, l3, gd_none, decide_true, decide_false, Bool.not_true, splice, coreS, Value.cells, Value.oneCell', Nat.reduceAdd, Nat.reduceSub, Nat.reduceMul, Nat.reduceLeDiff, Int.reduceEq, Nat.reduceEqDiff, H22Fs77]
      refine stK_abs b2 (by simp) fun h3 g3 u3 => ?_
      simp only [splice] at g3
      simp only [g3, splice, coreS, Value.cells, Value.oneCell', Nat.reduceAdd, Nat.reduceSub, Nat.reduceMul, Nat.reduceLeDiff, Int.reduceEq, Nat.reduceEqDiff, H22Fs77]
      have := key (.inr (.inr l3))
      exact ⟨u3.ext y1 (by omega), .inr ⟨by omega, by rw [this]⟩⟩
    have hR : rgE m lo hi = 0 := by rw [rgE, if_neg (by omega), if_neg (by omega)]
    simp only [e0, b0, b1, b2, l1, l2, l3, gd_none, decide_true, decide_false, Bool.not_true, splice, coreS, Value.cells, Value.oneCell', Nat.reduceAdd, Nat.reduceSub, Nat.reduceMul, Nat.reduceLeDiff, Int.reduceEq, Nat.reduceEqDiff, H22Fs77]
    refine WP_draw (by kernel_rfl) sta_eq [(0, 0), (1, 0), (2, 0), (3, 0), (4, 0), (5, 0), (6, 0), (7, 1), (8, 0)] (by kernel_rfl) rfl (by kernel_rfl) ?_
    simp only [b1, b2, hvK_eq, splice, coreS, Value.cells, Value.oneCell', Nat.reduceAdd, Nat.reduceSub, Nat.reduceMul, Nat.reduceLeDiff, Int.reduceEq, Nat.reduceEqDiff, drawS, H22Fs77]
    refine stK_abs b2 (by simp) fun h3 g3 u3 => ?_
    simp only [splice] at g3
    simp only [hvK_eq, g3, splice, coreS, Value.cells, Value.oneCell', Nat.reduceAdd, Nat.reduceSub, Nat.reduceMul, Nat.reduceLeDiff, Int.reduceEq, Nat.reduceEqDiff, drawS, H22Fs77]
    exact ⟨u3.ext y1 (by omega), .inl ⟨hR, b, rfl, u3.get ho (by simp only [Array.size_push] at hbs; omega)⟩⟩
  · have e1 : rgE m lo hi = chk m := by rw [rgE, if_pos e0]
    simp only [e0, b2, decide_false, Bool.not_false, splice, coreS, Value.cells, Value.oneCell', Nat.reduceAdd, Nat.reduceSub, Nat.reduceMul, Nat.reduceLeDiff, Int.reduceEq, Nat.reduceEqDiff, H22Fs77]
    refine stK_abs b2 (by simp) fun h3 g3 u3 => ?_
    simp only [splice] at g3
    simp only [g3, splice, coreS, Value.cells, Value.oneCell', Nat.reduceAdd, Nat.reduceSub, Nat.reduceMul, Nat.reduceLeDiff, Int.reduceEq, Nat.reduceEqDiff, H22Fs77]
    exact ⟨u3.ext y1 (by omega), .inr ⟨by rw [e1]; exact e0, by rw [e1]⟩⟩
def raE (m : MV) (lo hi : Int) (s : ByteArray) : Int := if rgE m lo hi ≠ 0 then rgE m lo hi else if formE s ≠ 0 then formE s else if (m.ov.run (lo.toNat, hi.toNat) (bits s)).isNone then 22 else 0
def raV (m : MV) (lo hi : Int) (s : ByteArray) : OV.Sp := if raE m lo hi s = 0 then (m.ov.run (lo.toNat, hi.toNat) (bits s)).getD (0, 0) else (0, 0)
theorem rg_in {m : MV} {lo hi : Int} (h : rgE m lo hi = 0) : ∃ i j : Nat, lo = i ∧ hi = j ∧ i ≤ j ∧ j < m.casts.length ∧ m.casts.length ≤ 16 ∧ m.Good ∧ m.ov.In (i, j) := by
  unfold rgE at h
  split at h
  · rename_i h1; exact absurd h h1
  · rename_i h1
    have h1 := Classical.not_not.1 h1
    split at h
    · cases h
    · rename_i h2
      have gd := good_of h1
      have hn : m.ov.n = m.casts.length := rfl
      exact ⟨lo.toNat, hi.toNat, by omega, by omega, by omega, by omega, (chk_pos h1).1.2, gd, by show _ < _; omega, by show _ < _; omega⟩
theorem runAll41 (m : MV) (lo hi : Int) (s : ByteArray) (h : Eng.Heap) (hm : m.ok h) (hs : s.size ≤ 9223372036854775807) :
    CallsH Tryd.prog 41 #[m.val, rgV lo hi, .string s] h (fun v h' => v = .tuple #[spV (raV m lo hi s), .int .i64 (raE m lo hi s)] ∧ Ext h h') := by
  have key : ∀ {e : Int} {P : Prop}, raE m lo hi s = e → e ≠ 0 → P → Value.tuple #[.agg #[.int .i64 0, .int .i64 0], .int .i64 e] = .tuple #[spV (raV m lo hi s), .int .i64 (raE m lo hi s)] ∧ P := by
    rintro e P rfl he hP
    exact ⟨by rw [raV, if_neg he]; rfl, hP⟩
  (refine CallsH_of_exec Tryd.func41 rfl bod41 ?_; simp only [Tryd.ntmps41, Tryd.results41, coreS, stK_some, splice, Value.cells, Value.oneCell', Nat.reduceAdd, Nat.reduceSub, Nat.reduceMul, Nat.reduceLeDiff, Int.reduceEq, Nat.reduceEqDiff, H22Fs41])
  simp only [show ¬ (h.size = h.size + 1 + 1) by omega, if_false, coreS, Value.cells, Value.oneCell', Nat.reduceAdd, Nat.reduceSub, Nat.reduceMul, Nat.reduceLeDiff, Int.reduceEq, Nat.reduceEqDiff, H22Fs41]
  have x0 : Ext h (((h.push (.cells #[.slice m.a m.casts.length m.ca, .slice m.b m.waits.length m.cb, .int .i64 m.lo, .int .i64 m.hi] 24)).push (.cells #[.int .i64 lo, .int .i64 hi] 54)).push (.cells #[.int .i64 0, .int .i64 0] 54)) := (((Ext.refl h).push _).push _).push _
  refine CallsH.mono (ranged77 m lo hi _ (hm.ext x0)) ?_
  rintro v h1 ⟨x1, h1'⟩
  have y1 := x0.trans x1
  have b2 : h1[h.size + 2]? = some (.cells #[.int .i64 0, .int .i64 0] 54) := x1.get (by rw [Array.getElem?_push, if_pos (by simp)])
  have hz := lt_of_get b2
  have hz2 := y1.size
  rcases h1' with ⟨e0, b, rfl, ho⟩ | ⟨e0, rfl⟩
  · obtain ⟨i, j, rfl, rfl, hij, hj, h16, gd, hin⟩ := rg_in e0
    simp only [splice, coreS, Value.cells, Value.oneCell', Nat.reduceAdd, Nat.reduceSub, Nat.reduceMul, Nat.reduceLeDiff, Int.reduceEq, Nat.reduceEqDiff, H22Fs41]
    refine stK_abs (push_new (h := h1) (o := .cells #[.int .i64 0, .int .i64 0] 84)) (by simp) fun h2 g2 u2 => ?_
    simp only [splice] at g2
    have k2 := u2.get (push_old b2) (by omega)
    have ko := u2.get (push_old ho) (by have := lt_of_get ho; omega)
    have y2 : Ext h h2 := u2.ext (y1.push _) hz2
    have z2 := lt_of_get k2
    have hs2 : h2.size = h1.size + 1 := by rw [u2.size]; simp
    have e1 : raE m i j s = if formE s ≠ 0 then formE s else if (m.ov.run (i, j) (bits s)).isNone then 22 else 0 := by rw [raE, if_neg (by simpa using e0), Int.toNat_natCast, Int.toNat_natCast]
    simp only [decide_true, Bool.not_true, coreS, Value.cells, Value.oneCell', Nat.reduceAdd, Nat.reduceSub, Nat.reduceMul, Nat.reduceLeDiff, Int.reduceEq, Nat.reduceEqDiff, H22Fs41]
    refine CallsH.mono (letters57 s h2 hs) ?_
    rintro v h3 ⟨rfl, x3⟩
    have y3 := y2.trans x3
    have k3 := x3.get k2
    by_cases hf : formE s = 0
    · obtain ⟨hs5, hl⟩ := form_ok hf
      rw [if_neg (by simpa using hf)] at e1
      simp only [hf, x3.get g2, decide_true, Bool.not_true, coreS, Value.cells, Value.oneCell', Nat.reduceAdd, Nat.reduceSub, Nat.reduceMul, Nat.reduceLeDiff, Int.reduceEq, Nat.reduceEqDiff, H22Fs41]
      refine CallsH.mono (run58 m b (i, j) s h3 gd (hm.ext y3) (x3.get ko) hin hl) ?_
      rintro v h4 ⟨rfl, x4⟩
      have y4 := y3.trans x4
      have k4 := x4.get k3
      have z4 := lt_of_get k4
      have zz := y4.size
      cases hr : m.ov.run (i, j) (bits s) with
      | none =>
        rw [hr] at e1
        simp only [runV, k4, splice, coreS, Value.cells, Value.oneCell', Nat.reduceAdd, Nat.reduceSub, Nat.reduceMul, Nat.reduceLeDiff, Int.reduceEq, Nat.reduceEqDiff, H22Fs41]
        refine stK_abs (push_new (h := h4) (o := .cells #[.int .i64 0, .int .i64 0] 84)) (by simp) fun h5 g5 u5 => ?_
        simp only [splice] at g5
        have k5 := u5.get (push_old k4) (by omega)
        simp only [k5, Bool.not_false, splice, coreS, Value.cells, Value.oneCell', Nat.reduceAdd, Nat.reduceSub, Nat.reduceMul, Nat.reduceLeDiff, Int.reduceEq, Nat.reduceEqDiff, H22Fs41]
        refine stK_abs k5 (by simp) fun h6 g6 u6 => ?_
        simp only [splice] at g6
        simp only [g6, splice, coreS, Value.cells, Value.oneCell', Nat.reduceAdd, Nat.reduceSub, Nat.reduceMul, Nat.reduceLeDiff, Int.reduceEq, Nat.reduceEqDiff, H22Fs41]
        exact key e1 (by omega) (u6.ext (u5.ext (y4.push _) zz) (by omega))
      | some t =>
        rw [hr] at e1
        have hE : raE m i j s = 0 := e1
        have hV : raV m i j s = t := by rw [raV, if_pos hE, Int.toNat_natCast, Int.toNat_natCast, hr]; rfl
        simp only [runV, k4, splice, coreS, Value.cells, Value.oneCell', Nat.reduceAdd, Nat.reduceSub, Nat.reduceMul, Nat.reduceLeDiff, Int.reduceEq, Nat.reduceEqDiff, H22Fs41]
        refine stK_abs (push_new (h := h4) (o := .cells #[.int .i64 0, .int .i64 0] 84)) (by simp) fun h5 g5 u5 => ?_
        simp only [splice] at g5
        have k5 := u5.get (push_old k4) (by omega)
        simp only [g5, k5, Bool.not_true, splice, coreS, Value.cells, Value.oneCell', Nat.reduceAdd, Nat.reduceSub, Nat.reduceMul, Nat.reduceLeDiff, Int.reduceEq, Nat.reduceEqDiff, H22Fs41]
        refine stK_abs k5 (by simp) fun h6 g6 u6 => ?_
        simp only [splice] at g6
        simp only [g6, splice, coreS, Value.cells, Value.oneCell', Nat.reduceAdd, Nat.reduceSub, Nat.reduceMul, Nat.reduceLeDiff, Int.reduceEq, Nat.reduceEqDiff, H22Fs41]
        exact ⟨by rw [hE, hV], u6.ext (u5.ext (y4.push _) zz) (by omega)⟩
    · simp only [hf, k3, decide_false, Bool.not_false, splice, coreS, Value.cells, Value.oneCell', Nat.reduceAdd, Nat.reduceSub, Nat.reduceMul, Nat.reduceLeDiff, Int.reduceEq, Nat.reduceEqDiff, H22Fs41]
      refine stK_abs k3 (by simp) fun h5 g5 u5 => ?_
      simp only [splice] at g5
      simp only [g5, splice, coreS, Value.cells, Value.oneCell', Nat.reduceAdd, Nat.reduceSub, Nat.reduceMul, Nat.reduceLeDiff, Int.reduceEq, Nat.reduceEqDiff, H22Fs41]
      exact key (by rw [e1, if_pos hf]) hf (u5.ext y3 (by omega))
  · simp only [e0, b2, decide_false, Bool.not_false, splice, coreS, Value.cells, Value.oneCell', Nat.reduceAdd, Nat.reduceSub, Nat.reduceMul, Nat.reduceLeDiff, Int.reduceEq, Nat.reduceEqDiff, H22Fs41]
    refine stK_abs (push_new (h := h1) (o := .cells #[.int .i64 0, .int .i64 0] 84)) (by simp) fun h2 g2 u2 => ?_
    simp only [splice] at g2
    have k2 := u2.get (push_old b2) (by omega)
    simp only [e0, k2, decide_false, Bool.not_false, splice, coreS, Value.cells, Value.oneCell', Nat.reduceAdd, Nat.reduceSub, Nat.reduceMul, Nat.reduceLeDiff, Int.reduceEq, Nat.reduceEqDiff, H22Fs41]
    refine stK_abs k2 (by simp) fun h5 g5 u5 => ?_
    simp only [splice] at g5
    simp only [g5, splice, coreS, Value.cells, Value.oneCell', Nat.reduceAdd, Nat.reduceSub, Nat.reduceMul, Nat.reduceLeDiff, Int.reduceEq, Nat.reduceEqDiff, H22Fs41]
    exact key (by rw [raE, if_pos e0]) e0 (u5.ext (u2.ext (y1.push _) hz2) (by omega))
def suE (m : MV) (lo hi k : Int) : Int := if rgE m lo hi ≠ 0 then rgE m lo hi else fromE m (lo.toNat, hi.toNat) k
def suP (m : MV) (lo hi k : Int) : ByteArray := if suE m lo hi k = 0 then planS (m.ov.pl k.toNat (lo.toNat, hi.toNat)) else ⟨#[]⟩
theorem surely43 (m : MV) (lo hi k : Int) (h : Eng.Heap) (hm : m.ok h) :
    CallsH Tryd.prog 43 #[m.val, rgV lo hi, .int .i64 k] h (fun v h' => v = .tuple #[.string (suP m lo hi k), .int .i64 (suE m lo hi k)] ∧ Ext h h') := by
  (refine CallsH_of_exec Tryd.func43 rfl bod43 ?_; simp only [Tryd.ntmps43, Tryd.results43, coreS, stK_some, splice, Value.cells, Value.oneCell', Nat.reduceAdd, Nat.reduceSub, Nat.reduceMul, Nat.reduceLeDiff, Int.reduceEq, Nat.reduceEqDiff, H22Fs43])
  have x0 : Ext h ((h.push (.cells #[.slice m.a m.casts.length m.ca, .slice m.b m.waits.length m.cb, .int .i64 m.lo, .int .i64 m.hi] 24)).push (.cells #[.int .i64 lo, .int .i64 hi] 54)) := ((Ext.refl h).push _).push _
  refine CallsH.mono (ranged77 m lo hi _ (hm.ext x0)) ?_
  rintro v h1 ⟨x1, h1'⟩
  have y1 := x0.trans x1
  have hz2 := y1.size
  rcases h1' with ⟨e0, b, rfl, ho⟩ | ⟨e0, rfl⟩
  · obtain ⟨i, j, rfl, rfl, hij, hj, h16, gd, hin⟩ := rg_in e0
    simp only [splice, coreS, Value.cells, Value.oneCell', Nat.reduceAdd, Nat.reduceSub, Nat.reduceMul, Nat.reduceLeDiff, Int.reduceEq, Nat.reduceEqDiff, H22Fs43]
    refine stK_abs (push_new (h := h1) (o := .cells #[.int .i64 0, .int .i64 0] 84)) (by simp) fun h2 g2 u2 => ?_
    simp only [splice] at g2
    have ko := u2.get (push_old ho) (by have := lt_of_get ho; omega)
    have y2 : Ext h h2 := u2.ext (y1.push _) hz2
    have e1 : suE m i j k = fromE m (i, j) k := by rw [suE, if_neg (by simpa using e0)]; rfl
    have e2 : suP m i j k = fromP m (i, j) k := by rw [suP, fromP, e1]; rfl
    rw [e1, e2]
    simp only [g2, decide_true, Bool.not_true, coreS, Value.cells, Value.oneCell', Nat.reduceAdd, Nat.reduceSub, Nat.reduceMul, Nat.reduceLeDiff, Int.reduceEq, Nat.reduceEqDiff, H22Fs43]
    refine CallsH.mono (planned66 m gd h16 b (i, j) k h2 hin (hm.ext y2) ko) ?_
    rintro v h3 ⟨rfl, x3⟩
    simp only [coreS, Value.cells, Value.oneCell', Nat.reduceAdd, Nat.reduceSub, Nat.reduceMul, Nat.reduceLeDiff, Int.reduceEq, Nat.reduceEqDiff, H22Fs43]
    exact y2.trans x3
  · simp only [splice, coreS, Value.cells, Value.oneCell', Nat.reduceAdd, Nat.reduceSub, Nat.reduceMul, Nat.reduceLeDiff, Int.reduceEq, Nat.reduceEqDiff, H22Fs43]
    refine stK_abs (push_new (h := h1) (o := .cells #[.int .i64 0, .int .i64 0] 84)) (by simp) fun h2 g2 u2 => ?_
    simp only [e0, decide_false, Bool.not_false, coreS, Value.cells, Value.oneCell', Nat.reduceAdd, Nat.reduceSub, Nat.reduceMul, Nat.reduceLeDiff, Int.reduceEq, Nat.reduceEqDiff, H22Fs43]
    have e1 : suE m lo hi k = rgE m lo hi := by rw [suE, if_pos e0]
    exact ⟨by rw [suP, e1, if_neg e0], u2.ext (y1.push _) hz2⟩
end Go.Proofs.YtafemfjhflfdeaaDoor
end
section
namespace Go.Proofs.YtafemfjhflfdeaaDoor
set_option linter.unusedSimpArgs false
set_option linter.unusedVariables false
set_option linter.defProp false
set_option maxRecDepth 100000
namespace OV
variable {o : OV}
theorem lw_table (ok : o.ok) (T : List (List (Option Nat))) (K : Nat) (h0 : ∀ i, i < o.n → (T.getD 0 []).getD i none = some 0)
    (hs : ∀ k, k < K → ∀ i, i < o.n → (T.getD (k + 1) []).getD i none = better (if o.can (i, i) then (T.getD k []).getD (o.c i) none else none) (if o.w i = i then none else ((T.getD (k + 1) []).getD (o.w i) none).map (· + 1))) :
    ∀ k, k ≤ K → ∀ i, i < o.n → o.lw k (i, i) = (T.getD k []).getD i none := by
  intro k
  induction k with
  | zero => intro _ i hi; rw [h0 i hi, lw_zero]
  | succ k ihk =>
    intro hk i
    induction i using Nat.strongRecOn with
    | _ i ih =>
      intro hi
      have hwi := ok.wg i hi
      rw [lw_succ ok ⟨hi, hi⟩, hs k (by omega) i hi]
      have e1 : (if o.can (i, i) = true then o.lw k (o.C (i, i)) else none) = (if o.can (i, i) = true then (T.getD k []).getD (o.c i) none else none) := by
        rw [show o.C (i, i) = (o.c i, o.c i) from rfl, ihk (by omega) (o.c i) (ok.cl i hi)]
      rw [e1]
      by_cases hw : o.w i = i
      · rw [if_pos hw, if_pos (show o.W (i, i) = (i, i) from Prod.ext hw hw)]
      · rw [if_neg hw, if_neg (fun h => hw (congrArg Prod.fst h)), show o.W (i, i) = (o.w i, o.w i) from rfl, ih (o.w i) (by omega) (by omega)]
theorem bk_table (T : List (List (List Nat))) (h0 : ∀ j, j < o.n → o.cool (o.st j) = (T.getD j []).getD 0 [])
    (hs : ∀ j, j < o.n → ∀ k, k < o.n → o.cool (o.cst ((T.getD j []).getD k [])) = (T.getD j []).getD (k + 1) []) :
    ∀ j, j < o.n → ∀ k, k ≤ o.n → o.bk j k = (T.getD j []).getD k [] := by
  intro j hj k
  induction k with
  | zero => intro _; exact h0 j hj
  | succ k ih => intro hk; rw [bk, ih (by omega), hs j hj k (by omega)]
theorem rch_table (i : Nat) (T : List (List Bool)) (h0 : o.rone i = T.getD 0 []) (hs : ∀ k, k < o.n → o.rpass (T.getD k []) = T.getD (k + 1) []) : o.rch i = T.getD o.n [] := by
  have key : ∀ k, k ≤ o.n → o.rit (o.rone i) k = T.getD k [] := by
    intro k
    induction k with
    | zero => intro _; exact h0
    | succ k ih => intro hk; rw [rit, ih (by omega), hs k (by omega)]
  exact key o.n (Nat.le_refl _)
def rtXT (T : List (List (List Nat))) (R : List Bool) (h k : Nat) : List (Nat × Nat) := if decide ((((T.getD h []).getD k []).getD h 0) < far) && R.getD h false then [byP (((T.getD h []).getD k []).getD h 0) k] else []
def rateT (n : Nat) (T : List (List (List Nat))) (R : List Bool) : Nat × Nat := match (List.range n).flatMap (fun h => (List.range n).flatMap fun j => rtXT T R h (j + 1)) with
  | [] => (0, 0)
  | x :: l => bestQ x l
theorem flat_congr {α β : Type} {f g : α → List β} : ∀ {l : List α}, (∀ x ∈ l, f x = g x) → l.flatMap f = l.flatMap g
  | [], _ => rfl
  | x :: l, H => by rw [List.flatMap_cons, List.flatMap_cons, H x List.mem_cons_self, flat_congr fun y hy => H y (List.mem_cons_of_mem _ hy)]
theorem rate_table {i : Nat} {T : List (List (List Nat))} {R : List Bool} (hT : ∀ j, j < o.n → ∀ k, k ≤ o.n → o.bk j k = (T.getD j []).getD k []) (hR : o.rch i = R) : o.rate i = rateT o.n T R := by
  have e : o.rtL i o.n = (List.range o.n).flatMap (fun h => (List.range o.n).flatMap fun j => rtXT T R h (j + 1)) := by
    rw [rtL]
    refine flat_congr fun h hh => ?_
    rw [rtH]
    refine flat_congr fun j hj => ?_
    have hh := List.mem_range.1 hh
    have hj := List.mem_range.1 hj
    rw [rtX, isBk, hT h hh (j + 1) (by omega), hR, rtXT]
  rw [rate, e]
  rfl
def good : OV := ⟨8, fun i => (([2, 3, 4, 5, 6, 7, 7, 7] : List Int).getD i 0).toNat, fun i => (([0, 0, 1, 1, 2, 3, 4, 4] : List Int).getD i 0).toNat, 2, 5⟩
def stuck : OV := ⟨8, fun i => (([2, 3, 4, 5, 6, 7, 7, 7] : List Int).getD i 0).toNat, fun i => (([0, 0, 1, 1, 2, 3, 6, 6] : List Int).getD i 0).toNat, 4, 5⟩
def goodT : List (List (Option Nat)) := [[some 0, some 0, some 0, some 0, some 0, some 0, some 0, some 0],
  [none, none, some 0, some 0, some 0, some 0, some 1, some 1],
  [none, none, some 0, some 0, some 1, some 1, some 2, some 2],
  [none, none, some 1, some 1, some 2, some 2, some 3, some 3],
  [none, none, some 2, some 2, some 3, some 3, some 4, some 4],
  [none, none, some 3, some 3, some 4, some 4, some 5, some 5],
  [none, none, some 4, some 4, some 5, some 5, some 6, some 6],
  [none, none, some 5, some 5, some 6, some 6, some 7, some 7],
  [none, none, some 6, some 6, some 7, some 7, some 8, some 8],
  [none, none, some 7, some 7, some 8, some 8, some 9, some 9]]
def stuckT : List (List (Option Nat)) := [[some 0, some 0, some 0, some 0, some 0, some 0, some 0, some 0],
  [none, none, none, none, some 0, some 0, none, none],
  [none, none, none, none, none, none, none, none],
  [none, none, none, none, none, none, none, none],
  [none, none, none, none, none, none, none, none],
  [none, none, none, none, none, none, none, none],
  [none, none, none, none, none, none, none, none],
  [none, none, none, none, none, none, none, none],
  [none, none, none, none, none, none, none, none],
  [none, none, none, none, none, none, none, none]]
def goodB : List (List (List Nat)) := [[[0, 1048576, 1048576, 1048576, 1048576, 1048576, 1048576, 1048576], [1048576, 1048576, 1048576, 1048576, 1048576, 1048576, 1048576, 1048576], [1048576, 1048576, 1048576, 1048576, 1048576, 1048576, 1048576, 1048576], [1048576, 1048576, 1048576, 1048576, 1048576, 1048576, 1048576, 1048576], [1048576, 1048576, 1048576, 1048576, 1048576, 1048576, 1048576, 1048576], [1048576, 1048576, 1048576, 1048576, 1048576, 1048576, 1048576, 1048576], [1048576, 1048576, 1048576, 1048576, 1048576, 1048576, 1048576, 1048576], [1048576, 1048576, 1048576, 1048576, 1048576, 1048576, 1048576, 1048576], [1048576, 1048576, 1048576, 1048576, 1048576, 1048576, 1048576, 1048576]],
  [[1, 0, 1048576, 1048576, 1048576, 1048576, 1048576, 1048576], [1048576, 1048576, 1048576, 1048576, 1048576, 1048576, 1048576, 1048576], [1048576, 1048576, 1048576, 1048576, 1048576, 1048576, 1048576, 1048576], [1048576, 1048576, 1048576, 1048576, 1048576, 1048576, 1048576, 1048576], [1048576, 1048576, 1048576, 1048576, 1048576, 1048576, 1048576, 1048576], [1048576, 1048576, 1048576, 1048576, 1048576, 1048576, 1048576, 1048576], [1048576, 1048576, 1048576, 1048576, 1048576, 1048576, 1048576, 1048576], [1048576, 1048576, 1048576, 1048576, 1048576, 1048576, 1048576, 1048576], [1048576, 1048576, 1048576, 1048576, 1048576, 1048576, 1048576, 1048576]],
  [[2, 1, 0, 1048576, 1048576, 1048576, 1048576, 1048576], [3, 2, 1, 1048576, 0, 1048576, 1048576, 1048576], [4, 3, 2, 1048576, 1, 1048576, 0, 1048576], [5, 4, 3, 1048576, 2, 1048576, 1, 1048576], [6, 5, 4, 1048576, 3, 1048576, 2, 1048576], [7, 6, 5, 1048576, 4, 1048576, 3, 1048576], [8, 7, 6, 1048576, 5, 1048576, 4, 1048576], [9, 8, 7, 1048576, 6, 1048576, 5, 1048576], [10, 9, 8, 1048576, 7, 1048576, 6, 1048576]],
  [[2, 1, 1048576, 0, 1048576, 1048576, 1048576, 1048576], [3, 2, 1048576, 1, 1048576, 0, 1048576, 1048576], [4, 3, 2, 2, 1, 1, 1048576, 0], [5, 4, 3, 3, 2, 2, 1, 1], [6, 5, 4, 4, 3, 3, 2, 2], [7, 6, 5, 5, 4, 4, 3, 3], [8, 7, 6, 6, 5, 5, 4, 4], [9, 8, 7, 7, 6, 6, 5, 5], [10, 9, 8, 8, 7, 7, 6, 6]],
  [[3, 2, 1, 1048576, 0, 1048576, 1048576, 1048576], [4, 3, 2, 1048576, 1, 1048576, 0, 1048576], [5, 4, 3, 1048576, 2, 1048576, 1, 1048576], [6, 5, 4, 1048576, 3, 1048576, 2, 1048576], [7, 6, 5, 1048576, 4, 1048576, 3, 1048576], [8, 7, 6, 1048576, 5, 1048576, 4, 1048576], [9, 8, 7, 1048576, 6, 1048576, 5, 1048576], [10, 9, 8, 1048576, 7, 1048576, 6, 1048576], [11, 10, 9, 1048576, 8, 1048576, 7, 1048576]],
  [[3, 2, 1048576, 1, 1048576, 0, 1048576, 1048576], [4, 3, 2, 2, 1, 1, 1048576, 0], [5, 4, 3, 3, 2, 2, 1, 1], [6, 5, 4, 4, 3, 3, 2, 2], [7, 6, 5, 5, 4, 4, 3, 3], [8, 7, 6, 6, 5, 5, 4, 4], [9, 8, 7, 7, 6, 6, 5, 5], [10, 9, 8, 8, 7, 7, 6, 6], [11, 10, 9, 9, 8, 8, 7, 7]],
  [[4, 3, 2, 1048576, 1, 1048576, 0, 1048576], [5, 4, 3, 1048576, 2, 1048576, 1, 1048576], [6, 5, 4, 1048576, 3, 1048576, 2, 1048576], [7, 6, 5, 1048576, 4, 1048576, 3, 1048576], [8, 7, 6, 1048576, 5, 1048576, 4, 1048576], [9, 8, 7, 1048576, 6, 1048576, 5, 1048576], [10, 9, 8, 1048576, 7, 1048576, 6, 1048576], [11, 10, 9, 1048576, 8, 1048576, 7, 1048576], [12, 11, 10, 1048576, 9, 1048576, 8, 1048576]],
  [[4, 3, 2, 1048576, 1, 1048576, 1048576, 0], [5, 4, 3, 1048576, 2, 1048576, 1, 1048576], [6, 5, 4, 1048576, 3, 1048576, 2, 1048576], [7, 6, 5, 1048576, 4, 1048576, 3, 1048576], [8, 7, 6, 1048576, 5, 1048576, 4, 1048576], [9, 8, 7, 1048576, 6, 1048576, 5, 1048576], [10, 9, 8, 1048576, 7, 1048576, 6, 1048576], [11, 10, 9, 1048576, 8, 1048576, 7, 1048576], [12, 11, 10, 1048576, 9, 1048576, 8, 1048576]]]
def goodR : List (List Bool) := [[false, false, false, true, false, false, false, false],
  [false, true, false, true, true, true, false, true],
  [true, true, true, true, true, true, true, true],
  [true, true, true, true, true, true, true, true],
  [true, true, true, true, true, true, true, true],
  [true, true, true, true, true, true, true, true],
  [true, true, true, true, true, true, true, true],
  [true, true, true, true, true, true, true, true],
  [true, true, true, true, true, true, true, true]]
theorem good_rate : good.rate 3 = (1, 1) := by
  rw [rate_table (bk_table goodB (by decide +kernel) (by decide +kernel)) (rch_table 3 goodR (by decide +kernel) (by decide +kernel))]
  decide +kernel
theorem good_lw (ok : good.ok) : ∀ k, k ≤ 9 → ∀ i, i < 8 → good.lw k (i, i) = (goodT.getD k []).getD i none := lw_table ok goodT 9 (by decide +kernel) (by decide +kernel)
theorem stuck_lw (ok : stuck.ok) : ∀ k, k ≤ 9 → ∀ i, i < 8 → stuck.lw k (i, i) = (stuckT.getD k []).getD i none := lw_table ok stuckT 9 (by decide +kernel) (by decide +kernel)
def mostT (t : Nat → Bool) : Nat → Nat → Option Nat
  | 0, _ => none
  | f + 1, k => if t (k + 1) then mostT t f (k + 1) else some k
theorem mostF_T {s : Sp} {t : Nat → Bool} : ∀ (f k : Nat), (∀ j, j ≤ k + f → (o.lw j s).isSome = t j) → o.mostF s f k = mostT t f k
  | 0, _, _ => rfl
  | f + 1, k, H => by
    have h1 := H (k + 1) (by omega)
    rw [mostF, mostT, mostF_T f (k + 1) fun j hj => H j (by omega)]
    cases hx : o.lw (k + 1) s <;> rw [hx] at h1 <;> simp [← h1]
theorem good_most (ok : good.ok) {i : Nat} (hi : i < 8) : good.most i = mostT (fun j => ((goodT.getD j []).getD i none).isSome) 9 0 :=
  mostF_T 9 0 fun j hj => by rw [good_lw ok j (by omega) i hi]
theorem stuck_most (ok : stuck.ok) {i : Nat} (hi : i < 8) : stuck.most i = mostT (fun j => ((stuckT.getD j []).getD i none).isSome) 9 0 :=
  mostF_T 9 0 fun j hj => by rw [stuck_lw ok j (by omega) i hi]
end OV
end Go.Proofs.YtafemfjhflfdeaaDoor
end
section
namespace Go.Proofs.YtafemfjhflfdeaaDoor
open Go Go.Proofs Go.Eng Go.Run Tab
set_option maxRecDepth 100000
set_option linter.unusedSimpArgs false
set_option linter.unusedVariables false
set_option linter.defProp false
set_option maxHeartbeats 4000000
set_option linter.defProp false
def H30Fs49 := (And.intro (And.intro @agg54 (And.intro @fps54_0 @fps54_1)) (And.intro (And.intro @inf54 @okf54) (And.intro @sz54 @zero54)))
def H30Fs52 := (And.intro (And.intro (And.intro @agg24 @by3) (And.intro @inf24 @inf3)) (And.intro (And.intro @sz24 @sz3) (And.intro @zero24 (And.intro @zero3 @Tryd.underlying22))))
def H30Fs53 := (And.intro (And.intro (And.intro @agg24 @by3) (And.intro @inf24 @inf3)) (And.intro (And.intro @sz24 @sz3) (And.intro @zero24 (And.intro @zero3 @Tryd.underlying22))))
def H30Fs55 := (And.intro (And.intro @agg45 (And.intro @fps45_0 @fps45_1)) (And.intro (And.intro @inf45 @okf45) (And.intro @sz45 @zero45)))
def H30Fs79 := (And.intro (And.intro (And.intro (And.intro @agg22 @agg24) (And.intro @by3 @fo24_0)) (And.intro (And.intro @fo24_1 @fps24_2) (And.intro @fps24_3 @inf22))) (And.intro (And.intro (And.intro @inf24 @inf3) (And.intro @okf24 @sz22)) (And.intro (And.intro @sz24 @sz3) (And.intro @zero24 @Tryd.underlying22))))
theorem of54 (v : Value) (h : Eng.Heap) : CallsH Tryd.prog 54 #[v] h (fun r h' => r = v ∧ h' = h) := by
  (refine CallsH_of_exec Tryd.func54 rfl bod54 ?_; simp only [Tryd.ntmps54, Tryd.results54, coreS, stK_some, splice, Value.cells, Value.oneCell', Nat.reduceAdd, Nat.reduceSub, Nat.reduceMul, Nat.reduceLeDiff, Int.reduceEq, Nat.reduceEqDiff])
theorem by55 (x y : Int) (h : Eng.Heap) : CallsH Tryd.prog 55 #[.int .i64 x, .int .i64 y] h (fun r h' => r = .agg #[.int .i64 x, .int .i64 y] ∧ Ext h h') := by
  (refine CallsH_of_exec Tryd.func55 rfl bod55 ?_; simp only [Tryd.ntmps55, Tryd.results55, coreS, stK_some, splice, Value.cells, Value.oneCell', Nat.reduceAdd, Nat.reduceSub, Nat.reduceMul, Nat.reduceLeDiff, Int.reduceEq, Nat.reduceEqDiff, H30Fs55])
  exact (Ext.refl h).push _
theorem to49 (x y : Int) (h : Eng.Heap) : CallsH Tryd.prog 49 #[.int .i64 x, .int .i64 y] h (fun r h' => r = rgV x y ∧ Ext h h') := by
  (refine CallsH_of_exec Tryd.func49 rfl bod49 ?_; simp only [Tryd.ntmps49, Tryd.results49, coreS, stK_some, splice, Value.cells, Value.oneCell', Nat.reduceAdd, Nat.reduceSub, Nat.reduceMul, Nat.reduceLeDiff, Int.reduceEq, Nat.reduceEqDiff, H30Fs49])
  exact (Ext.refl h).push _
theorem mould79 (lo hi : Int) (g : Nat) (h : Eng.Heap) :
    CallsH Tryd.prog 79 #[.int .i64 lo, .int .i64 hi, .int .i64 8, .slice (some ⟨g, 0, none⟩) 16 16] h (fun r h' => r = .agg #[.slice (some ⟨g, 0, none⟩) 8 16, .slice (some ⟨g, 8, none⟩) 8 8, .int .i64 lo, .int .i64 hi] ∧ Ext h h') := by
  (refine CallsH_of_exec Tryd.func79 rfl bod79 ?_; simp only [Tryd.ntmps79, Tryd.results79, coreS, stK_some, splice, Value.cells, Value.oneCell', Nat.reduceAdd, Nat.reduceSub, Nat.reduceMul, Nat.reduceLeDiff, Int.reduceEq, Nat.reduceEqDiff, H30Fs79])
  obtain ⟨H2, hH2⟩ : ∃ H2, H2 = updH ((h.push (.cells #[.slice none 0 0, .slice none 0 0, .int .i64 0, .int .i64 0] 24)).push (.cells #[.slice none 0 0, .slice none 0 0, .int .i64 0, .int .i64 0] 24)) (h.size + 1) [.slice none 0 0, .slice none 0 0, .int .i64 lo, .int .i64 hi] 24 := ⟨_, rfl⟩
  have g2 : H2[h.size + 1]? = some (.cells #[.slice none 0 0, .slice none 0 0, .int .i64 lo, .int .i64 hi] 24) := by rw [hH2]; exact upd_same (c := [.slice none 0 0, .slice none 0 0, .int .i64 lo, .int .i64 hi]) (by simp)
  have u2 : Upd ((h.push (.cells #[.slice none 0 0, .slice none 0 0, .int .i64 0, .int .i64 0] 24)).push (.cells #[.slice none 0 0, .slice none 0 0, .int .i64 0, .int .i64 0] 24)) H2 (h.size + 1) := by rw [hH2]; exact Upd.updH
  have g0 := u2.get (pn0 (h := h)) (by omega)
  have x2 : Ext h H2 := u2.ext (((Ext.refl h).push _).push _) (by omega)
  rw [← hH2]
  clear hH2 u2
  refine ⟨fun _ => ⟨fun _ => ?_, fun hh => absurd (by decide) hh⟩, fun hh => absurd (by decide) hh⟩
  refine WP_draw (by kernel_rfl) sta_eq [(0, 0), (1, 0), (2, 0), (3, 3), (4, 3), (5, 3), (6, 0), (7, 1), (8, 0), (9, 1)] (by kernel_rfl) rfl (by kernel_rfl) ?_
  simp only [g2, hvK_eq, splice, coreS, Value.cells, Value.oneCell', Nat.reduceAdd, Nat.reduceSub, Nat.reduceMul, Nat.reduceLeDiff, Int.reduceEq, Nat.reduceEqDiff, drawS, H30Fs79]
  simp only [ite_self, show ((8 : Int) - ((0 : Nat) : Int)).toNat = 8 from rfl, show (((16 : Nat) : Int) - ((0 : Nat) : Int)).toNat = 16 from rfl, show (((16 : Nat) : Int) - (8 : Int)).toNat = 8 from rfl, show ¬ (((16 : Nat) : Int) = (8 : Int)) by decide, if_false]
  refine ⟨by decide, by decide, by decide, by decide, by decide, by decide, by decide, by decide, ?_⟩
  refine stK_abs g2 (by simp) fun h3 g3 u3 => ?_
  simp only [splice] at g3
  simp only [g3, splice, coreS, Value.cells, Value.oneCell', Nat.reduceAdd, Nat.reduceSub, Nat.reduceMul, Nat.reduceLeDiff, Int.reduceEq, Nat.reduceEqDiff, drawS, H30Fs79]
  refine stK_abs g3 (by simp) fun h4 g4 u4 => ?_
  simp only [splice] at g4
  have g04 := u4.get (u3.get g0 (by omega)) (by omega)
  simp only [g4, g04, hvK_eq, splice, coreS, Value.cells, Value.oneCell', Nat.reduceAdd, Nat.reduceSub, Nat.reduceMul, Nat.reduceLeDiff, Int.reduceEq, Nat.reduceEqDiff, drawS, H30Fs79]
  refine stK_abs g04 (by simp) fun h5 g5 u5 => ?_
  simp only [splice] at g5
  simp only [g5, splice, coreS, Value.cells, Value.oneCell', Nat.reduceAdd, Nat.reduceSub, Nat.reduceMul, Nat.reduceLeDiff, Int.reduceEq, Nat.reduceEqDiff, H30Fs79]
  exact ⟨rfl, u5.ext (u4.ext (u3.ext x2 (by omega)) (by omega)) (by omega)⟩
def goodM (g : Nat) : MV := ⟨[2, 3, 4, 5, 6, 7, 7, 7], [0, 0, 1, 1, 2, 3, 4, 4], 2, 5, some ⟨g, 0, none⟩, some ⟨g, 8, none⟩, 16, 8⟩
def stuckM (g : Nat) : MV := ⟨[2, 3, 4, 5, 6, 7, 7, 7], [0, 0, 1, 1, 2, 3, 6, 6], 4, 5, some ⟨g, 0, none⟩, some ⟨g, 8, none⟩, 16, 8⟩
theorem pair_ok {h : Eng.Heap} {g : Nat} {xs ys : List Int} (hx : xs.length = 8) (hy : ys.length = 8) (hb : h[g]? = some (.cells (Eng.ints (xs ++ ys)).toArray 3)) : IntsV h (some ⟨g, 0, none⟩) 8 xs ∧ IntsV h (some ⟨g, 8, none⟩) 8 ys := by
  refine ⟨⟨by omega, .inr ⟨g, 0, _, _, _, rfl, hb, ?_, ?_⟩⟩, ⟨by omega, .inr ⟨g, 8, _, _, _, rfl, hb, ?_, ?_⟩⟩⟩
  · simp [Eng.ints, hx, hy]
  · rw [List.toList_toArray, List.drop_zero, show Eng.ints (xs ++ ys) = Eng.ints xs ++ Eng.ints ys from List.map_append, List.take_left' rfl]
  · simp [Eng.ints, hx, hy]
  · rw [List.toList_toArray, show Eng.ints (xs ++ ys) = Eng.ints xs ++ Eng.ints ys from List.map_append, List.drop_left' (by rw [Eng.ints_length]; exact hx), List.take_of_length_le (Nat.le_refl _)]
theorem good52 (h : Eng.Heap) : CallsH Tryd.prog 52 #[] h (fun r h' => (∃ g, r = (goodM g).val ∧ (goodM g).ok h') ∧ Ext h h') := by
  (refine CallsH_of_exec Tryd.func52 rfl bod52 ?_; simp only [Tryd.ntmps52, Tryd.results52, coreS, stK_some, splice, Value.cells, Value.oneCell', Nat.reduceAdd, Nat.reduceSub, Nat.reduceMul, Nat.reduceLeDiff, Int.reduceEq, Nat.reduceEqDiff, H30Fs52])
  have x0 : Ext h ((h.push (.cells #[.slice none 0 0, .slice none 0 0, .int .i64 0, .int .i64 0] 24)).push (.cells #[.int .i64 2, .int .i64 3, .int .i64 4, .int .i64 5, .int .i64 6, .int .i64 7, .int .i64 7, .int .i64 7, .int .i64 0, .int .i64 0, .int .i64 1, .int .i64 1, .int .i64 2, .int .i64 3, .int .i64 4, .int .i64 4] 3)) := ((Ext.refl h).push _).push _
  refine CallsH.mono (mould79 2 5 (h.size + 1) _) ?_
  rintro v h1 ⟨rfl, x1⟩
  have y1 := x0.trans x1
  have b0 := x1.get (pn0 (h := h))
  have b1 := x1.get (pn1 (h := h))
  simp only [b0, splice, coreS, Value.cells, Value.oneCell', Nat.reduceAdd, Nat.reduceSub, Nat.reduceMul, Nat.reduceLeDiff, Int.reduceEq, Nat.reduceEqDiff, H30Fs52]
  refine stK_abs b0 (by simp) fun h5 g5 u5 => ?_
  simp only [splice] at g5
  have k1 := u5.get b1 (by omega)
  simp only [g5, splice, coreS, Value.cells, Value.oneCell', Nat.reduceAdd, Nat.reduceSub, Nat.reduceMul, Nat.reduceLeDiff, Int.reduceEq, Nat.reduceEqDiff, H30Fs52]
  have hp := pair_ok (h := h5) (g := h.size + 1) (xs := (goodM (h.size + 1)).casts) (ys := (goodM (h.size + 1)).waits) rfl rfl k1
  exact ⟨⟨h.size + 1, rfl, hp.1, hp.2, show 8 ≤ 24 by decide, show 8 ≤ 24 by decide⟩, u5.ext y1 (Nat.le_refl _)⟩
theorem stuck53 (h : Eng.Heap) : CallsH Tryd.prog 53 #[] h (fun r h' => (∃ g, r = (stuckM g).val ∧ (stuckM g).ok h') ∧ Ext h h') := by
  (refine CallsH_of_exec Tryd.func53 rfl bod53 ?_; simp only [Tryd.ntmps53, Tryd.results53, coreS, stK_some, splice, Value.cells, Value.oneCell', Nat.reduceAdd, Nat.reduceSub, Nat.reduceMul, Nat.reduceLeDiff, Int.reduceEq, Nat.reduceEqDiff, H30Fs53])
  have x0 : Ext h ((h.push (.cells #[.slice none 0 0, .slice none 0 0, .int .i64 0, .int .i64 0] 24)).push (.cells #[.int .i64 2, .int .i64 3, .int .i64 4, .int .i64 5, .int .i64 6, .int .i64 7, .int .i64 7, .int .i64 7, .int .i64 0, .int .i64 0, .int .i64 1, .int .i64 1, .int .i64 2, .int .i64 3, .int .i64 6, .int .i64 6] 3)) := ((Ext.refl h).push _).push _
  refine CallsH.mono (mould79 4 5 (h.size + 1) _) ?_
  rintro v h1 ⟨rfl, x1⟩
  have y1 := x0.trans x1
  have b0 := x1.get (pn0 (h := h))
  have b1 := x1.get (pn1 (h := h))
  simp only [b0, splice, coreS, Value.cells, Value.oneCell', Nat.reduceAdd, Nat.reduceSub, Nat.reduceMul, Nat.reduceLeDiff, Int.reduceEq, Nat.reduceEqDiff, H30Fs53]
  refine stK_abs b0 (by simp) fun h5 g5 u5 => ?_
  simp only [splice] at g5
  have k1 := u5.get b1 (by omega)
  simp only [g5, splice, coreS, Value.cells, Value.oneCell', Nat.reduceAdd, Nat.reduceSub, Nat.reduceMul, Nat.reduceLeDiff, Int.reduceEq, Nat.reduceEqDiff, H30Fs53]
  have hp := pair_ok (h := h5) (g := h.size + 1) (xs := (stuckM (h.size + 1)).casts) (ys := (stuckM (h.size + 1)).waits) rfl rfl k1
  exact ⟨⟨h.size + 1, rfl, hp.1, hp.2, show 8 ≤ 24 by decide, show 8 ≤ 24 by decide⟩, u5.ext y1 (Nat.le_refl _)⟩
end Go.Proofs.YtafemfjhflfdeaaDoor
end
section
namespace Go.Proofs.YtafemfjhflfdeaaDoor
open Go Go.Proofs Go.Eng Go.Run Tab
set_option maxRecDepth 100000
set_option linter.unusedSimpArgs false
set_option linter.unusedVariables false
set_option linter.defProp false
set_option maxHeartbeats 4000000
theorem good_ov (g : Nat) : (goodM g).ov = OV.good := rfl
theorem stuck_ov (g : Nat) : (stuckM g).ov = OV.stuck := rfl
theorem good_chk (g : Nat) : chk (goodM g) = 0 := by
  have : chk (goodM 0) = 0 := by decide +kernel
  exact this
theorem stuck_chk (g : Nat) : chk (stuckM g) = 0 := by
  have : chk (stuckM 0) = 0 := by decide +kernel
  exact this
theorem good_ok : OV.good.ok := (good_of (good_chk 0)).ok
theorem stuck_ok : OV.stuck.ok := (good_of (stuck_chk 0)).ok
theorem v1 (g : Nat) : runE (goodM g) 3 ⟨#[99, 99, 119]⟩ = 0 ∧ runA (goodM g) 3 ⟨#[99, 99, 119]⟩ = 4 ∧ runK (goodM g) 3 ⟨#[99, 99, 119]⟩ = 2 := by
  have : runE (goodM 0) 3 ⟨#[99, 99, 119]⟩ = 0 ∧ runA (goodM 0) 3 ⟨#[99, 99, 119]⟩ = 4 ∧ runK (goodM 0) 3 ⟨#[99, 99, 119]⟩ = 2 := by decide +kernel
  exact this
theorem v2 (g : Nat) : runE (goodM g) 3 ⟨#[99, 99, 99]⟩ = 22 := by
  have : runE (goodM 0) 3 ⟨#[99, 99, 99]⟩ = 22 := by decide +kernel
  exact this
theorem v3 (g : Nat) : runE (goodM g) 3 ⟨#[99, 120]⟩ = 8 := by
  have : runE (goodM 0) 3 ⟨#[99, 120]⟩ = 8 := by decide +kernel
  exact this
theorem v4 (g : Nat) : runE (goodM g) 8 ⟨#[99]⟩ = 2 := by
  have : runE (goodM 0) 8 ⟨#[99]⟩ = 2 := by decide +kernel
  exact this
theorem v5 (g : Nat) : ceW (goodM g) 3 4 = 2 ∧ ceE (goodM g) 3 4 = 0 := by
  have : ceW (goodM 0) 3 4 = 2 ∧ ceE (goodM 0) 3 4 = 0 := by decide +kernel
  exact this
theorem v6 (g : Nat) : ceE (goodM g) 1 1 = 22 := by
  have : ceE (goodM 0) 1 1 = 22 := by decide +kernel
  exact this
theorem v7 (g : Nat) : ceP (goodM g) 3 4 = ⟨#[99, 99, 119, 99, 119, 99]⟩ := by
  have : ceP (goodM 0) 3 4 = ⟨#[99, 99, 119, 99, 119, 99]⟩ := by decide +kernel
  exact this
def ivO : Option Nat → Int
  | some k => k
  | none => -1
theorem moV_iv (m : MV) (i : Nat) : moV m i = ivO (m.ov.most i) := by
  rw [moV]; cases m.ov.most i <;> rfl
theorem mo_good (g : Nat) {i : Nat} (hi : i < 8) : moV (goodM g) i = ivO (OV.mostT (fun j => ((OV.goodT.getD j []).getD i none).isSome) 9 0) := by
  rw [moV_iv, good_ov, OV.good_most good_ok hi]
theorem mo_stuck (g : Nat) {i : Nat} (hi : i < 8) : moV (stuckM g) i = ivO (OV.mostT (fun j => ((OV.stuckT.getD j []).getD i none).isSome) 9 0) := by
  rw [moV_iv, stuck_ov, OV.stuck_most stuck_ok hi]
theorem moL_good (g : Nat) : moL (goodM g) 8 = [0, 0, -1, -1, -1, -1, -1, -1] := by
  have : moL (goodM g) 8 = (List.range 8).map fun i => ivO (OV.mostT (fun j => ((OV.goodT.getD j []).getD i none).isSome) 9 0) := by
    rw [moL]
    exact List.map_congr_left fun i hi => mo_good g (List.mem_range.1 hi)
  rw [this]
  decide +kernel
theorem moL_stuck (g : Nat) : moL (stuckM g) 8 = [0, 0, 0, 0, 1, 1, 0, 0] := by
  have : moL (stuckM g) 8 = (List.range 8).map fun i => ivO (OV.mostT (fun j => ((OV.stuckT.getD j []).getD i none).isSome) 9 0) := by
    rw [moL]
    exact List.map_congr_left fun i hi => mo_stuck g (List.mem_range.1 hi)
  rw [this]
  decide +kernel
theorem opn_one (g : Nat) {x : Int} (h : inB 0 (7 : Int) [x] = true) : opn (goodM g) [x] = 0 := by
  rw [opn, good_chk, if_neg (by decide)]
  exact if_pos h
theorem opn_one' (g : Nat) {x : Int} (h : inB 0 (7 : Int) [x] = true) : opn (stuckM g) [x] = 0 := by
  rw [opn, stuck_chk, if_neg (by decide)]
  exact if_pos h
theorem v8 (g : Nat) : moE (goodM g) 3 = 4 := by
  rw [moE, opn_one g (by decide), if_neg (by decide), show (3 : Int).toNat = 3 from rfl, mo_good g (by omega)]
  decide +kernel
theorem v9 (g : Nat) : moE (stuckM g) 4 = 0 ∧ moW (stuckM g) 4 = 1 := by
  have h : moE (stuckM g) 4 = 0 := by
    rw [moE, opn_one' g (by decide), if_neg (by decide), show (4 : Int).toNat = 4 from rfl, mo_stuck g (by omega)]
    decide +kernel
  refine ⟨h, ?_⟩
  rw [moW, h, if_pos rfl, show (4 : Int).toNat = 4 from rfl, mo_stuck g (by omega)]
  decide +kernel
theorem v12 (g : Nat) : cklE (stuckM g) [0, 0, 0, 0, 1, 1, 0, 0] = 0 := by
  have : cklE (stuckM 0) [0, 0, 0, 0, 1, 1, 0, 0] = 0 := by decide +kernel
  exact this
theorem v13 (g : Nat) : cklE (stuckM g) [0, 0, 0, 0, 2, 1, 1, 0] = 14 := by
  have : cklE (stuckM 0) [0, 0, 0, 0, 2, 1, 1, 0] = 14 := by decide +kernel
  exact this
theorem v14 (g : Nat) : ckrE (goodM g) 3 ⟨#[99, 99, 119]⟩ ⟨#[99, 119]⟩ = 0 ∧ ckrV (goodM g) 3 ⟨#[99, 99, 119]⟩ ⟨#[99, 119]⟩ = (1, 1) := by
  have : ckrE (goodM 0) 3 ⟨#[99, 99, 119]⟩ ⟨#[99, 119]⟩ = 0 ∧ ckrV (goodM 0) 3 ⟨#[99, 99, 119]⟩ ⟨#[99, 119]⟩ = (1, 1) := by decide +kernel
  exact this
theorem v15 (g : Nat) : ckrE (goodM g) 3 ⟨#[99]⟩ ⟨#[99, 119]⟩ = 14 := by
  have : ckrE (goodM 0) 3 ⟨#[99]⟩ ⟨#[99, 119]⟩ = 14 := by decide +kernel
  exact this
theorem v16 (g : Nat) : roE (goodM g) 3 = 0 := by
  rw [roE, opn_one g (by decide), if_neg (by decide), show (3 : Int).toNat = 3 from rfl, mo_good g (by omega)]
  decide +kernel
theorem v17 (g : Nat) : roE (stuckM g) 4 = 22 := by
  rw [roE, opn_one' g (by decide), if_neg (by decide), show (4 : Int).toNat = 4 from rfl, mo_stuck g (by omega)]
  decide +kernel
theorem v18 (g : Nat) : rtV (goodM g) 3 = (1, 1) := by
  rw [rtV, v16, if_pos rfl, good_ov]
  exact OV.good_rate
theorem v19 (g : Nat) : raE (goodM g) 2 3 ⟨#[99, 99]⟩ = 0 ∧ raV (goodM g) 2 3 ⟨#[99, 99]⟩ = (6, 7) := by
  have : raE (goodM 0) 2 3 ⟨#[99, 99]⟩ = 0 ∧ raV (goodM 0) 2 3 ⟨#[99, 99]⟩ = (6, 7) := by decide +kernel
  exact this
theorem v20 (g : Nat) : raE (goodM g) 3 4 ⟨#[99, 99]⟩ = 22 := by
  have : raE (goodM 0) 3 4 ⟨#[99, 99]⟩ = 22 := by decide +kernel
  exact this
theorem v21 (g : Nat) : suE (goodM g) 2 3 2 = 0 ∧ suP (goodM g) 2 3 2 = ⟨#[99, 99]⟩ := by
  have : suE (goodM 0) 2 3 2 = 0 ∧ suP (goodM 0) 2 3 2 = ⟨#[99, 99]⟩ := by decide +kernel
  exact this
theorem v22 (g : Nat) : suE (goodM g) 1 3 1 = 22 := by
  have : suE (goodM 0) 1 3 1 = 22 := by decide +kernel
  exact this
theorem v23 (g : Nat) : suE (goodM g) 7 8 1 = 3 := by
  have : suE (goodM 0) 7 8 1 = 3 := by decide +kernel
  exact this
theorem form_planS {p : List Bool} (h : p.length ≤ 500) : formE (planS p) = 0 := by
  rw [formE, planS_size, if_neg (by omega), lets_planS]; rfl
theorem ckr_of {m : MV} {x : Int} {p q : List Bool} {u : Nat} (ho : opn m [x] = 0) (h1 : m.ov.run (x.toNat, x.toNat) p = some (u, u)) (h2 : m.ov.run (u, u) q = some (u, u)) (hc : 1 ≤ OV.casts q) (hu : u < m.casts.length) (hl1 : p.length ≤ 500) (hl2 : q.length ≤ 500) : ckrE m x (planS p) (planS q) = 0 ∧ ckrV m x (planS p) (planS q) = OV.byP (q.length - OV.casts q) (OV.casts q) := by
  have e1 : runE m x (planS p) = 0 := by
    rw [runE, if_neg (by simpa using ho), if_neg (by simpa using form_planS hl1), bits_planS, h1]; rfl
  have a1 : runA m x (planS p) = (u : Int) := by rw [runA, if_pos e1, bits_planS, h1]; rfl
  have hk : chk m = 0 := by
    unfold opn at ho
    split at ho
    · rename_i h; exact absurd ho h
    · rename_i h; exact Classical.not_not.1 h
  have o2 : opn m [(u : Int)] = 0 := by
    rw [opn, if_neg (by simpa using hk), if_pos]
    rw [inB_one, decide_eq_true_eq]; omega
  have e2 : runE m (u : Int) (planS q) = 0 := by
    rw [runE, if_neg (by simpa using o2), if_neg (by simpa using form_planS hl2), bits_planS, Int.toNat_natCast, h2]; rfl
  have a2 : runA m (u : Int) (planS q) = (u : Int) := by rw [runA, if_pos e2, bits_planS, Int.toNat_natCast, h2]; rfl
  have k2 : runK m (u : Int) (planS q) = (OV.casts q : Int) := by rw [runK, if_pos e2, bits_planS]
  have ec : ckrE m x (planS p) (planS q) = 0 := by
    rw [ckrE, e1, a1, e2, a2, k2, if_neg (by decide), if_neg (by decide), if_neg (by omega)]
  refine ⟨ec, ?_⟩
  rw [ckrV, if_pos ec, a1, k2, planS_size, Int.toNat_natCast]
end Go.Proofs.YtafemfjhflfdeaaDoor
end
section
namespace Go.Proofs.YtafemfjhflfdeaaDoor
set_option linter.unusedSimpArgs false
set_option linter.unusedVariables false
set_option linter.defProp false
namespace OV
variable {o : OV}
def Ach (o : OV) (j k : Nat) (v : List Nat) : Prop := ∀ u, u < o.n → v.getD u 0 < far → ∃ p, o.run (j, j) p = some (u, u) ∧ casts p = k ∧ p.length = k + v.getD u 0
theorem Ach.rel (ok : o.ok) {j k : Nat} {v : List Nat} (hv : v.length = o.n) (H : o.Ach j k v) {i : Nat} (hi : i < o.n) : o.Ach j k (o.rel v i) := fun u hu hf => by
  rw [rel_at ok hv hi] at hf ⊢
  by_cases he : u = o.w i
  · rw [if_pos he] at hf ⊢
    by_cases hm : v.getD (o.w i) 0 ≤ v.getD i 0 + 1
    · rw [Nat.min_eq_left hm] at hf ⊢
      rw [← he] at hf ⊢
      exact H u hu hf
    · rw [Nat.min_eq_right (by omega)] at hf ⊢
      obtain ⟨p, h1, h2, h3⟩ := H i hi (by omega)
      refine ⟨p ++ [false], ?_, ?_, ?_⟩
      · rw [he]; exact run_join h1 rfl
      · rw [casts_append, h2]; rfl
      · rw [List.length_append, h3]; simp; omega
  · rw [if_neg he] at hf ⊢
    exact H u hu hf
theorem Ach.fold (ok : o.ok) {j k : Nat} : ∀ (l : List Nat) (v : List Nat), v.length = o.n → (∀ i ∈ l, i < o.n) → o.Ach j k v → o.Ach j k (l.foldl o.rel v)
  | [], v, hv, hl, H => H
  | i :: l, v, hv, hl, H => by
    rw [List.foldl_cons]
    exact Ach.fold ok l _ (by rw [rel_length, hv]) (fun x hx => hl x (List.mem_cons_of_mem _ hx)) (H.rel ok hv (hl i List.mem_cons_self))
theorem Ach.cool (ok : o.ok) {j k : Nat} {v : List Nat} (hv : v.length = o.n) (H : o.Ach j k v) : o.Ach j k (o.cool v) :=
  Ach.fold ok _ v hv (fun i hi => List.mem_range.1 (List.mem_reverse.1 hi)) H
theorem getD_far {n u : Nat} (hu : u < n) : (List.replicate n far).getD u 0 = far := by
  rw [List.getD_eq_getElem?_getD, List.getElem?_replicate, if_pos hu]; rfl
theorem Ach.cstK (ok : o.ok) {j k : Nat} {v : List Nat} (H : o.Ach j k v) : ∀ m, m ≤ o.n → o.Ach j (k + 1) (o.cstK v m)
  | 0, hm, u, hu, hf => by
    rw [show o.cstK v 0 = List.replicate o.n far from rfl, getD_far hu] at hf
    omega
  | m + 1, hm, u, hu, hf => by
    have ih := Ach.cstK ok H m (by omega)
    rw [cstK_succ] at hf ⊢
    unfold cs1 at hf ⊢
    split at hf
    · rename_i hc
      rw [if_pos hc]
      rw [getD_set' (by rw [cstK_length]; exact ok.cl m (by omega))] at hf ⊢
      by_cases he : u = o.c m
      · rw [if_pos he] at hf ⊢
        by_cases hle : (o.cstK v m).getD (o.c m) 0 ≤ v.getD m 0
        · rw [Nat.min_eq_left hle] at hf ⊢
          rw [← he] at hf ⊢
          exact ih u hu hf
        · rw [Nat.min_eq_right (by omega)] at hf ⊢
          obtain ⟨p, h1, h2, h3⟩ := H m (by omega) hf
          refine ⟨p ++ [true], ?_, ?_, ?_⟩
          · rw [he]
            refine run_join h1 ?_
            rw [run_cons, step, if_pos rfl, if_pos hc]; rfl
          · rw [casts_append, h2]; rfl
          · rw [List.length_append, h3]; simp; omega
      · rw [if_neg he] at hf ⊢
        exact ih u hu hf
    · rename_i hc
      rw [if_neg hc]
      exact ih u hu hf
end OV
end Go.Proofs.YtafemfjhflfdeaaDoor
end
section
set_option linter.unusedVariables false
set_option linter.unusedSimpArgs false
namespace Go.Eng
open Go
theorem WP_cut {l : Option Nat} {P : Program} {c : Code} {n : Env → List Deferred → Heap → Prop} {k : Cont} {e : Env} {d : List Deferred} {h : Heap} (ws : List Nat) (I : (Nat → Value) → Heap → Prop)
    (H : WP l P c (thenK (midK e d ws I) k) e d h) (Hn : ∀ g h', I g h' → n (mkE e ws g) d h') : WP l P c (thenK n k) e d h :=
  WP_mono (thenK_mono (fun e' d' h' hmid => by
    unfold midK at hmid
    obtain ⟨h1, h2, h3⟩ := hmid
    subst h1
    rw [h2]
    exact Hn _ _ h3) (fun _ _ _ _ h => h)) H
def eqO : Value → Value → Option Bool
  | .int k a, .int k' b => if k = k' then some (decide (a = b)) else none
  | _, _ => none
def pureO (e : Env) : Op → Option Value
  | .move x => some (ev e x)
  | .assign x => some (ev e x)
  | .pick c a b => match ev e c with
    | .bool true => some (ev e a)
    | .bool false => some (ev e b)
    | _ => none
  | .binOp .eql _ x y _ => (eqO (ev e x) (ev e y)).map .bool
  | .binOp .neq _ x y _ => (eqO (ev e x) (ev e y)).map fun b => .bool (!b)
  | _ => none
def evalP (all : List Oper) : List Oper → Env → Option Env
  | [], e => some e
  | o :: rest, e => match o.guard with
    | none => (pureO e o.op).bind fun v => evalP all rest (putE e o.dst v)
    | some (j, want) => match gslot all j with
      | none => none
      | some t => match e.getD t undef with
        | .bool b => if b = want then (pureO e o.op).bind fun v => evalP all rest (putE e o.dst v) else evalP all rest (putE e o.dst undef)
        | _ => none
theorem eqO_some {v w : Value} {b : Bool} (h : eqO v w = some b) : ∃ k x y, v = .int k x ∧ w = .int k y ∧ b = decide (x = y) := by
  unfold eqO at h
  split at h
  · split at h
    · rename_i hk
      subst hk
      exact ⟨_, _, _, rfl, rfl, (Option.some.inj h).symm⟩
    · cases h
  · cases h
section pureR
variable {P : Program} {k : Cont} {d : List Deferred} {h : Heap}
theorem pureO_sound {e : Env} {o : Op} {v : Value} {ty : TypeId} {K : Value → Heap → Prop} (H : pureO e o = some v) (hK : K v h) : opW P o ty e h K := by
  unfold pureO at H
  unfold opW
  split at H
  · cases H; exact hK
  · cases H; exact hK
  · split at H
    · rename_i hc; cases H; simp only [hc]; exact hK
    · rename_i hc; cases H; simp only [hc]; exact hK
    · cases H
  · rename_i ty2 x y yt
    obtain ⟨b, hb, rfl⟩ := Option.map_eq_some_iff.1 H
    obtain ⟨kd, a, c, h1, h2, rfl⟩ := eqO_some hb
    simp only [h1, h2]
    unfold binW intW
    exact ⟨rfl, hK⟩
  · rename_i ty2 x y yt
    obtain ⟨b, hb, rfl⟩ := Option.map_eq_some_iff.1 H
    obtain ⟨kd, a, c, h1, h2, rfl⟩ := eqO_some hb
    simp only [h1, h2]
    unfold binW intW
    exact ⟨rfl, hK⟩
  · cases H
theorem execR_pure {all : List Oper} {e' : Env} : ∀ (ops : List Oper) (e : Env), evalP all ops e = some e' → k .normal e' d h → execR P all ops k e d h
  | [], e, H, hk => by
    unfold execR
    cases H
    exact hk
  | o :: rest, e, H, hk => by
    unfold execR guardW
    unfold evalP at H
    have plain : ((pureO e o.op).bind fun v => evalP all rest (putE e o.dst v)) = some e' → opW P o.op o.type e h (fun v h' => execR P all rest k (putE e o.dst v) d h') := fun H => by
      obtain ⟨v, h1, h2⟩ := Option.bind_eq_some_iff.1 H
      exact pureO_sound h1 (execR_pure rest _ h2 hk)
    split at H
    · rename_i hg
      simp only [hg]
      exact plain H
    · rename_i j want hg
      simp only [hg]
      split at H
      · cases H
      · rename_i t hs
        simp only [hs]
        split at H
        · rename_i b hb
          have ht : t < e.length := by
            rcases Nat.lt_or_ge t e.length with h | h
            · exact h
            · simp [List.getD, List.getElem?_eq_none h, undef] at hb
          have hset := set_bool_same hb ht
          rw [hb]
          unfold boolW
          have key : ∀ c, b = c → (if c = want then opW P o.op o.type (e.set t (.bool c)) h (fun v h' => execR P all rest k (putE (e.set t (.bool c)) o.dst v) d h') else execR P all rest k (putE (e.set t (.bool c)) o.dst undef) d h) := by
            rintro c rfl
            rw [hset]
            by_cases hw : b = want
            · rw [if_pos hw] at H ⊢; exact plain H
            · rw [if_neg hw] at H ⊢; exact execR_pure rest _ H hk
          exact ⟨fun hb => key true hb, fun hb => key false hb⟩
        · cases H
theorem execR_quiet {all : List Oper} {e : Env} (ws : List Nat) (hs : (evalP all all e).isSome = true) (hw : mkE e ws (fun i => ((evalP all all e).getD []).getD i undef) = (evalP all all e).getD [])
    (H : ∀ g : Nat → Value, (g = fun i => ((evalP all all e).getD []).getD i undef) → k .normal (mkE e ws g) d h) : execR P all all k e d h := by
  obtain ⟨e', he⟩ := Option.isSome_iff_exists.1 hs
  refine execR_pure all e he ?_
  have := H _ rfl
  rw [hw, he] at this
  exact this
end pureR
end Go.Eng
end
