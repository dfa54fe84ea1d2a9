/- LedgerSigned returns true. -/
import Derived.Test.YtepaekbjoombpaaGreatDoorSL
import Derived.Test.YtepaekbjoombpaaGreatDoorS3
namespace Go.Eng
open Go Go.ChangeShapes Go.WideShapes Go.ChangeAt Go.RowKit
def bytesV (xs : List Int) : List Value := xs.map fun x => .int .u8 x
theorem bytesV_length (xs : List Int) : (bytesV xs).length = xs.length := List.length_map _
theorem bytesV_get (xs : List Int) {i : Nat} (h : i < (bytesV xs).length) : (bytesV xs)[i] = .int .u8 (xs[i]'(by simpa [bytesV] using h)) := by simp [bytesV]
/-- A slice of bytes as an argument. -/
theorem open_bytes {P : Program} {H : Type} {enc : TypeId × Value → H} {W : World} {base b0 : Nat} {r : Reach} {sp : Nat → Bool} {held : Bool} {t e : TypeId} {v : Value} {d : DataW H} {ps : List MemPlace} (ht : P.underlying t = some (.slice e)) (he : P.underlying e = some (.int .u8)) (hc : P.cellsOf e = 1)
    (hval : Value.okWide P W r b0 t v) (hd : DataW.Trod enc P W base sp held t v d ps) : ∃ a n c xs, v = .slice a n c ∧ (n = xs.length ∧ n ≤ c) ∧ Row W.heap a (bytesV xs) ∧ n ≤ 9223372036854775807 ∧ ∀ x ∈ xs, 0 ≤ x ∧ x ≤ 255 := by
  obtain ⟨a0, n, c, rfl⟩ := okWide_slice ht hval
  obtain ⟨fuel, hf⟩ := hd
  rcases open_ints ht he hc hf with ⟨hcs, _⟩ | ⟨a, len, cap, zs, hcs, _, hl, hm, hz, _, hcell, hw⟩
  · simp [Value.cells] at hcs
    obtain ⟨rfl, rfl, rfl⟩ := hcs
    exact ⟨none, 0, 0, [], rfl, ⟨rfl, Nat.le_refl _⟩, .inl rfl, by omega, by simp⟩
  · simp [Value.cells] at hcs
    obtain ⟨rfl, rfl, rfl⟩ := hcs
    have hlz : n ≤ zs.length := by rw [hz]; split <;> omega
    refine ⟨some a, n, c, zs.take n, rfl, ⟨by simp; omega, hl⟩, ?_, Nat.le_trans hl hm, fun x hx => bounds_u8 (hw x (List.mem_of_mem_take hx))⟩
    by_cases hn : n = 0
    · left; subst hn; simp [bytesV]
    · right
      have h0 := hcell 0 (by omega)
      have key : ∀ i u, W.cell? (a.add i) = some u → (i = 0 → a.spot = none) ∧ ∃ cur ct fr, W.heap[a.block]? = some (.cells cur ct fr) ∧ cur[a.off + i]? = some u := by
        intro i u hu
        unfold World.cell? Addr.add at hu
        by_cases hi : i = 0
        · subst hi
          simp only [if_true] at hu
          split at hu <;> simp_all
        · simp only [hi, if_false] at hu
          split at hu <;> simp_all
      obtain ⟨hsp, cur, ct, fr, hb, _⟩ := key 0 _ h0
      have hcur : ∀ i, i < zs.length → cur[a.off + i]? = some (.int .u8 (zs.getD i 0)) := fun i hi => by
        obtain ⟨_, cur2, ct2, fr2, hb2, hc2⟩ := key i _ (hcell i hi)
        rw [hb] at hb2
        cases hb2
        exact hc2
      have hsz : a.off + n ≤ cur.size := by
        have := hcur (n - 1) (by omega)
        have := (Array.getElem?_eq_some_iff.1 this).1
        omega
      obtain ⟨b, off, spot⟩ := a
      replace hsp := hsp rfl
      simp only at hsp hb hcur hsz
      subst hsp
      refine ⟨b, off, cur, ct, fr, rfl, hb, by simp [bytesV_length]; omega, ?_⟩
      apply List.ext_getElem?
      intro i
      rw [bytesV_length, List.length_take, List.getElem?_take, List.getElem?_drop]
      by_cases hi : i < n
      · rw [if_pos (by omega), Array.getElem?_toList, hcur i (by omega), bytesV, List.getElem?_map, List.getElem?_take, if_pos hi]
        have hi2 : i < zs.length := by omega
        simp [List.getD, hi2]
      · rw [if_neg (by omega), List.getElem?_eq_none]
        rw [bytesV_length, List.length_take]; omega
end Go.Eng
namespace Go.Proofs.YtepaekbjoombpaaGreatDoor
open Go Go.Proofs Go.Eng Tab
set_option maxRecDepth 100000
set_option linter.unusedSimpArgs false
set_option linter.unusedVariables false
set_option maxHeartbeats 2000000
set_option linter.defProp false
def S4Fs11 := (And.intro (And.intro (And.intro @agg5 @by5) (And.intro @inf5 @sz5)) (And.intro (And.intro @Tryz.underlying3 @Tryz.underlying5) (And.intro @Tryz.underlying9 (And.intro @Tryz.underlying21 @Tryz.underlying62))))
theorem convQ {er : Env} {h : Eng.Heap} {n : Int} {ty : TypeId} {x : Operand} {K : Value → Eng.Heap → Prop} (hx : ev er x = .int .i32 n) (H : K (.string (Utf8.encode n)) h) : opQS Tryz.prog EqH (.convert 21 9 x) ty er h K := by
  unfold opQS
  exact ⟨.string (Utf8.encode n), fun h' hr => conv_int_strT Tryz.underlying21 Tryz.underlying9 hx ⟨rfl, rfl⟩, H⟩
def digs : ByteArray := ⟨#[48, 49, 50, 51, 52, 53, 54, 55, 56, 57, 32]⟩
theorem digs_one : ∀ d : Fin 11, (digs.extract d.1 (d.1 + 1)).size = 1 ∧ txt ((digs.extract d.1 (d.1 + 1)).data.getD 0 0) = true := by decide
theorem sig_size (T : ByteArray) : (signS T).size = 1 := rfl
theorem mod_toNat {p : Int} (hp : 0 ≤ p) {m : Nat} : p.tmod (m : Int) = ((p.toNat % m : Nat) : Int) := by
  rw [Int.tmod_eq_emod_of_nonneg hp, Int.natCast_emod]
  congr 1
  omega
/-- The line of a text. -/
theorem line_new {T : ByteArray} (ht : text T = true) : Ln (bl (T ++ ⟨#[32]⟩ ++ signS T)) T.size := by
  obtain ⟨hs, htx⟩ := (text_iff T).1 ht
  have hb : bl (T ++ ⟨#[32]⟩ ++ signS T) = bl T ++ [32, UInt8.ofNat (97 + sumTo T T.size % 13)] := by
    rw [bl_append, bl_append, List.append_assoc]; rfl
  have hl := bl_length T
  have lo : ∀ i, i < T.size → (bl T ++ [32, UInt8.ofNat (97 + sumTo T T.size % 13)]).getD i 0 = (bl T).getD i 0 := fun i hi => by
    rw [List.getD_eq_getElem?_getD, List.getElem?_append_left (by omega), ← List.getD_eq_getElem?_getD]
  have sm : ∀ n, n ≤ T.size → sumL (bl T ++ [32, UInt8.ofNat (97 + sumTo T T.size % 13)]) n = sumL (bl T) n := by
    intro n
    induction n with
    | zero => intro _; rfl
    | succ n ih => intro h; rw [sumL, sumL, ih (by omega), lo n (by omega)]
  rw [hb]
  refine ⟨by rw [List.length_append, hl]; rfl, hs, fun i hi => ?_, ?_, ?_⟩
  · rw [lo i hi, ← bl_getD]; exact htx i hi
  · rw [List.getD_eq_getElem?_getD, List.getElem?_append_right (by omega), hl, Nat.sub_self]; rfl
  · rw [List.getD_eq_getElem?_getD, List.getElem?_append_right (by omega), hl, Nat.add_sub_cancel_left, sm _ (Nat.le_refl _), ← sumTo_bl]
    show (UInt8.ofNat (97 + sumTo T T.size % 13)).toNat = _
    rw [UInt8.toNat_ofNat']
    omega
theorem signed11 (a : Option Addr) (n c : Nat) (xs : List Int) (p sg q : Int) (h : Eng.Heap) (hn : n = xs.length ∧ n ≤ c) (hr : Row h a (bytesV xs)) (hm : n ≤ 9223372036854775807) (hx : ∀ x ∈ xs, 0 ≤ x ∧ x ≤ 255) (hp : 0 ≤ p ∧ p ≤ 255) (hsg : 0 ≤ sg ∧ sg ≤ 255) (hq : 0 ≤ q ∧ q ≤ 255) :
    CallsH Tryz.prog 11 #[.slice a n c, .int .u8 p, .int .u8 sg, .int .u8 q] h (fun v h' => v = .bool true ∧ Ext h h') := by
  obtain ⟨hn, hcap⟩ := hn
  have works : ∀ {h2 : Eng.Heap}, Ext h h2 → CallsH Tryz.prog 18 #[] h2 (fun v h' => v = .bool true ∧ Ext h h') := fun x => CallsH.mono (works18 _) fun v h' q => ⟨q.1, x.trans q.2⟩
  (refine CallsH_of_exec Tryz.func11 rfl bod11 ?_; simp only [Tryz.ntmps11, Tryz.results11, coreS, stK_some, splice, Value.cells, Value.oneCell', Nat.reduceAdd, Nat.reduceSub, Nat.reduceMul, Nat.reduceLeDiff, Int.reduceEq, Nat.reduceEqDiff, S4Fs11])
  refine WP_loopI [9, 10, 18, 19, 20, 21, 22, 23, 24, 25, 26, 27, 28, 29, 30, 31, 32, 33, 34, 35, 36, 37, 38, 39, 40, 41] (fun g h' => h' = h ∧ ∃ (i : Nat) (T : ByteArray), i ≤ n ∧ i ≤ 12 ∧ g 10 = .int .i64 i ∧ g 9 = .string T ∧ T.size = i ∧ ∀ j, j < i → txt (T.data.getD j 0) = true) (fun g _ => match g 10 with | .int _ m => n - m.toNat | _ => 0) ⟨rfl, 0, ⟨#[]⟩, by omega, by omega, rfl, rfl, rfl, fun j hj => by omega⟩ ?_
  rintro g h' ⟨rfl, i, T, hin, hi12, hg10, hg9, hT, htx⟩
  by_cases hi : i < n ∧ i < 12
  · have h1 : (i : Int) < n := by omega
    have h2 : (i : Int) < 12 := by omega
    have hcell := hr.cell (j := i) (by rw [bytesV_length]; omega)
    rw [bytesV_get] at hcell
    have hsm : a.isSome = true := hr.isSome (by rw [bytesV_length]; omega)
    have hix : i < xs.length := by omega
    obtain ⟨b, hb⟩ : ∃ b : Nat, xs[i] = (b : Int) := ⟨(xs[i]).toNat, by have := (hx _ (List.getElem_mem hix)).1; omega⟩
    have hb2 := (hx _ (List.getElem_mem hix)).2
    rw [hb] at hcell hb2
    have hmod : (b : Int).tmod 11 = ((b % 11 : Nat) : Int) := mod_int b 11
    have hd : b % 11 < 11 := Nat.mod_lt _ (by decide)
    have e1 : ((b % 11 : Nat) : Int) + 1 = ((b % 11 + 1 : Nat) : Int) := by omega
    obtain ⟨d1, d2⟩ := digs_one ⟨b % 11, hd⟩
    have dsz : (digs.size : Int) = 11 := rfl
    have hdg : (⟨#[48, 49, 50, 51, 52, 53, 54, 55, 56, 57, 32]⟩ : ByteArray) = digs := rfl
    simp only [hg10, hg9, h1, h2, decide_true, coreS, Value.cells, Value.oneCell', Nat.reduceAdd, Nat.reduceSub, Nat.reduceMul, Nat.reduceLeDiff, Int.reduceEq, Nat.reduceEqDiff, S4Fs11]
    refine WP_draw (by kernel_rfl) sta_eq [(0, 0), (1, 0), (2, 0), (3, 0), (4, 0), (5, 0), (6, 0), (7, 0), (8, 0), (9, 0), (10, 0), (11, 0), (12, 0), (13, 0), (14, 0)] (by kernel_rfl) rfl (by kernel_rfl) ?_
    simp only [hg10, hg9, hcell, hmod, e1, hdg, dsz, Int.toNat_natCast, coreS, Value.cells, Value.oneCell', Nat.reduceAdd, Nat.reduceSub, Nat.reduceMul, Nat.reduceLeDiff, Int.reduceEq, Nat.reduceEqDiff, drawS, S4Fs11]
    refine ⟨⟨by omega, by omega⟩, hsm, by decide, ⟨by omega, by omega⟩, hsm, by decide, by rw [inK_u8]; omega, by omega, by omega, by omega, by simp only at d1; rw [d1]; omega, ?_⟩
    refine ⟨by rw [inK_i64]; omega, roundK_mk (by kernel_rfl) ⟨rfl, i + 1, T ++ digs.extract (b % 11) (b % 11 + 1), by omega, by omega, rfl, rfl, by rw [ByteArray.size_append, hT]; simp only at d1; rw [d1], fun j hj => ?_⟩ ?_⟩
    · rw [bl_getD, bl_append, List.getD_eq_getElem?_getD]
      by_cases hji : j < i
      · rw [List.getElem?_append_left (by rw [bl_length]; omega), ← List.getD_eq_getElem?_getD, ← bl_getD]
        exact htx j hji
      · obtain rfl : j = i := by omega
        rw [List.getElem?_append_right (by rw [bl_length]; omega), bl_length, hT, Nat.sub_self, ← List.getD_eq_getElem?_getD, ← bl_getD]
        exact d2
    · show n - ((i : Int) + 1).toNat < n - (i : Int).toNat
      omega
  · by_cases h1 : (i : Int) < n
    · have h2 : ¬ (i : Int) < 12 := by omega
      obtain ⟨bz, hbz⟩ : ∃ bz, decide ((T.size : Int) = 0) = bz := ⟨_, rfl⟩
      simp only [h1, h2, hg10, hg9, hbz, gd_none, decide_true, decide_false, coreS, Value.cells, Value.oneCell', Nat.reduceAdd, Nat.reduceSub, Nat.reduceMul, Nat.reduceLeDiff, Int.reduceEq, Nat.reduceEqDiff, S4Fs11]
      refine cd_cut [9, 44] (fun g h5 => h5 = h' ∧ ∃ T', g 9 = .string T' ∧ text T' = true) ?_ ?_
      · cases bz with
        | false =>
          have h0 := of_decide_eq_false hbz
          simp only [coreS, Value.cells, Value.oneCell', Nat.reduceAdd, Nat.reduceSub, Nat.reduceMul, Nat.reduceLeDiff, Int.reduceEq, Nat.reduceEqDiff, S4Fs11]
          exact midK_mk (by kernel_rfl) ⟨rfl, T, rfl, (text_iff T).2 ⟨by omega, fun j hj => htx j (by omega)⟩⟩
        | true =>
          simp only [coreS, Value.cells, Value.oneCell', Nat.reduceAdd, Nat.reduceSub, Nat.reduceMul, Nat.reduceLeDiff, Int.reduceEq, Nat.reduceEqDiff, S4Fs11]
          exact midK_mk (by kernel_rfl) ⟨rfl, ⟨#[48]⟩, rfl, by decide⟩
      · rintro g5 h5 ⟨rfl, T', hg9, ht⟩
        have hts := text_size ht
        simp only [hg9, coreS, Value.cells, Value.oneCell', Nat.reduceAdd, Nat.reduceSub, Nat.reduceMul, Nat.reduceLeDiff, Int.reduceEq, Nat.reduceEqDiff, S4Fs11]
        refine CallsH.mono (sign34 T' h5 (by omega)) ?_
        rintro v h6 ⟨rfl, x6⟩
        have hsv : sgnV T' = .tuple #[.string (signS T'), .int .i64 0] := by rw [sgnV, sgn, if_neg (by omega), if_pos ht]
        have hsz : (((signS T').size : Nat) : Int) = 1 := rfl
        simp only [hsv, hsz, gd_none, decide_true, decide_false, Bool.not_true, Bool.not_false, coreS, Value.cells, Value.oneCell', Nat.reduceAdd, Nat.reduceSub, Nat.reduceMul, Nat.reduceLeDiff, Int.reduceEq, Nat.reduceEqDiff, S4Fs11]
        refine CallsH.mono (signOf46 T' h6 ht) ?_
        rintro v h7 ⟨rfl, rfl⟩
        simp only [decide_true, Bool.not_true, coreS, Value.cells, Value.oneCell', Nat.reduceAdd, Nat.reduceSub, Nat.reduceMul, Nat.reduceLeDiff, Int.reduceEq, Nat.reduceEqDiff, S4Fs11]
        have b1 : (⟨#[32]⟩ : ByteArray).size = 1 := rfl
        refine ⟨by rw [b1]; omega, by rw [ByteArray.size_append, b1, sig_size]; omega, ?_⟩
        obtain ⟨L, hL⟩ : ∃ L, T' ++ ⟨#[32]⟩ ++ signS T' = L := ⟨_, rfl⟩
        have hLn := line_new ht
        rw [hL] at hLn
        have hLs : L.size = T'.size + 2 := by rw [← bl_length]; exact hLn.len
        rw [hL]
        clear hL
        obtain ⟨p', hp'⟩ : ∃ p', p.toNat % L.size = p' := ⟨_, rfl⟩
        obtain ⟨q', hq'⟩ : ∃ q', q.toNat % L.size = q' := ⟨_, rfl⟩
        have hpl : p' < L.size := by rw [← hp']; exact Nat.mod_lt _ (by omega)
        have hql : q' < L.size := by rw [← hq']; exact Nat.mod_lt _ (by omega)
        have eP : p.tmod (L.size : Int) = (p' : Int) := by rw [mod_toNat hp.1, hp']
        have eQ : q.tmod (L.size : Int) = (q' : Int) := by rw [mod_toNat hq.1, hq']
        refine WP_draw (by kernel_rfl) sta_eq [(0, 0), (1, 0), (2, 0), (3, 0), (4, 0), (5, 0), (6, 0), (7, 0), (8, 0), (9, 0), (10, 0), (11, 0)] (by kernel_rfl) rfl (by kernel_rfl) ?_
        simp only [eP, eQ, coreS, Value.cells, Value.oneCell', Nat.reduceAdd, Nat.reduceSub, Nat.reduceMul, Nat.reduceLeDiff, Int.reduceEq, Nat.reduceEqDiff, drawS, S4Fs11]
        refine ⟨by rw [inK_i64]; omega, by omega, by rw [inK_i64]; omega, by omega, ?_⟩
        refine CallsH.mono (check36 L h7) ?_
        rintro v h8 ⟨rfl, x8⟩
        have hE : lineE L = 0 := (lineE_iff L).2 ⟨_, hLn⟩
        simp only [hE, decide_true, Bool.not_true, coreS, Value.cells, Value.oneCell', Nat.reduceAdd, Nat.reduceSub, Nat.reduceMul, Nat.reduceLeDiff, Int.reduceEq, Nat.reduceEqDiff, S4Fs11]
        refine WP_draw (by kernel_rfl) sta_eq [(0, 0), (1, 0), (2, 0), (3, 0), (4, 0), (5, 0), (6, 0), (7, 0), (8, 0), (9, 0), (10, 0), (11, 0), (12, 0)] (by kernel_rfl) rfl (by kernel_rfl) ?_
        simp only [Int.toNat_natCast, cvW_int_str, coreS, Value.cells, Value.oneCell', Nat.reduceAdd, Nat.reduceSub, Nat.reduceMul, Nat.reduceLeDiff, Int.reduceEq, Nat.reduceEqDiff, drawS, S4Fs11]
        refine ⟨by decide, by omega, by omega, by rw [inK_i32]; omega, convQ (by rfl) ?_⟩
        obtain ⟨E, hE2⟩ : ∃ E, Utf8.encode sg = E := ⟨_, rfl⟩
        have hEs : E.size ≤ 2 := by
          rw [← hE2]
          have := enc_small ⟨sg.toNat, by omega⟩
          rwa [show ((⟨sg.toNat, by omega⟩ : Fin 256).1 : Int) = sg by show ((sg.toNat : Nat) : Int) = sg; omega] at this
        have ep1 : (p' : Int) + 1 = ((p' + 1 : Nat) : Int) := by omega
        have x0 : (L.extract 0 p').size = p' := by rw [ex_size _ _ _ (by omega) (by omega)]; omega
        have x1 : (L.extract (p' + 1) L.size).size = L.size - (p' + 1) := ex_size _ _ _ (by omega) (by omega)
        simp only [hE2, ep1, Int.toNat_natCast, coreS, Value.cells, Value.oneCell', Nat.reduceAdd, Nat.reduceSub, Nat.reduceMul, Nat.reduceLeDiff, Int.reduceEq, Nat.reduceEqDiff, drawS, S4Fs11]
        refine ⟨by rw [x0]; omega, by rw [inK_i64]; omega, by omega, by omega, by omega, by rw [ByteArray.size_append, x0, x1]; omega, ?_⟩
        have hgp : (0 : Int) ≤ (p' : Int) ∧ (p' : Int) < L.size := by omega
        have hgq : (0 : Int) ≤ (q' : Int) ∧ (q' : Int) < L.size := by omega
        by_cases s1 : sg < 128
        · by_cases s2 : sg = ((L.data.getD p' 0).toNat : Int)
          · simp only [s1, hgp, ← s2, gd_none, decide_true, Int.toNat_natCast, Bool.not_true, coreS, Value.cells, Value.oneCell', Nat.reduceAdd, Nat.reduceSub, Nat.reduceMul, Nat.reduceLeDiff, Int.reduceEq, Nat.reduceEqDiff, S4Fs11]
            refine WP_draw (by kernel_rfl) sta_eq [(0, 0), (1, 0), (2, 0), (3, 0), (4, 0), (5, 0), (6, 0)] (by kernel_rfl) rfl (by kernel_rfl) ?_
            simp only [Int.toNat_natCast, coreS, Value.cells, Value.oneCell', Nat.reduceAdd, Nat.reduceSub, Nat.reduceMul, Nat.reduceLeDiff, Int.reduceEq, Nat.reduceEqDiff, drawS, S4Fs11]
            refine ⟨hgp, hgq, fun _ => ?_, fun s3 => ?_⟩
            · refine CallsH.mono (works (x6.trans x8)) ?_
              rintro v h10 ⟨rfl, x10⟩
              simp only [coreS, Value.cells, Value.oneCell', Nat.reduceAdd, Nat.reduceSub, Nat.reduceMul, Nat.reduceLeDiff, Int.reduceEq, Nat.reduceEqDiff, S4Fs11]
              exact x10
            · obtain ⟨lo, hi2, emin, emax, hlt, hh, hne2⟩ : ∃ lo hi2 : Nat, (if (q' : Int) < p' then (q' : Int) else p') = lo ∧ (if (p' : Int) < q' then (q' : Int) else p') = hi2 ∧ lo < hi2 ∧ hi2 < L.size ∧ L.data.getD lo 0 ≠ L.data.getD hi2 0 := by
                have hpq : p' ≠ q' := fun e => s3 (by rw [e])
                have hb : L.data.getD p' 0 ≠ L.data.getD q' 0 := fun e => s3 (by rw [e])
                by_cases h1 : q' < p'
                · exact ⟨q', p', if_pos (by omega), if_neg (by omega), h1, hpl, hb.symm⟩
                · exact ⟨p', q', if_neg (by omega), if_pos (by omega), by omega, hql, hb⟩
              simp only [emin, emax, coreS, Value.cells, Value.oneCell', Nat.reduceAdd, Nat.reduceSub, Nat.reduceMul, Nat.reduceLeDiff, Int.reduceEq, Nat.reduceEqDiff, S4Fs11]
              have e1 : (lo : Int) + 1 = ((lo + 1 : Nat) : Int) := by omega
              have e2 : (hi2 : Int) + 1 = ((hi2 + 1 : Nat) : Int) := by omega
              refine WP_draw (by kernel_rfl) sta_eq [(0, 0), (1, 0), (2, 0), (3, 0), (4, 0), (5, 0), (6, 0), (7, 0), (8, 0), (9, 0), (10, 0), (11, 0), (12, 0), (13, 0), (14, 0), (15, 0), (16, 0), (17, 0), (18, 0), (19, 0), (20, 0), (21, 0), (22, 0), (23, 0), (24, 0), (25, 0), (26, 0)] (by kernel_rfl) rfl (by kernel_rfl) ?_
              simp only [e1, e2, Int.toNat_natCast, coreS, Value.cells, Value.oneCell', Nat.reduceAdd, Nat.reduceSub, Nat.reduceMul, Nat.reduceLeDiff, Int.reduceEq, Nat.reduceEqDiff, drawS, S4Fs11]
              have y0 : (L.extract 0 lo).size = lo := by rw [ex_size _ _ _ (by omega) (by omega)]; omega
              have y1 : (L.extract hi2 (hi2 + 1)).size = 1 := by rw [ex_size _ _ _ (by omega) (by omega)]; omega
              have y2 : (L.extract (lo + 1) hi2).size = hi2 - (lo + 1) := ex_size _ _ _ (by omega) (by omega)
              have y3 : (L.extract lo (lo + 1)).size = 1 := by rw [ex_size _ _ _ (by omega) (by omega)]; omega
              have y4 : (L.extract (hi2 + 1) L.size).size = L.size - (hi2 + 1) := ex_size _ _ _ (by omega) (by omega)
              refine ⟨by decide, by omega, by omega, by rw [inK_i64]; omega, by omega, by omega, by omega, by simp only [ByteArray.size_append, y0, y1]; omega, by rw [inK_i64]; omega, by omega, by omega, by omega, by simp only [ByteArray.size_append, y0, y1, y2]; omega, by rw [inK_i64]; omega, by omega, by omega, by omega, by simp only [ByteArray.size_append, y0, y1, y2, y3]; omega, by rw [inK_i64]; omega, by omega, by omega, by omega, by simp only [ByteArray.size_append, y0, y1, y2, y3, y4]; omega, ?_⟩
              refine CallsH.mono (check36 _ _) ?_
              rintro v h10 ⟨rfl, x10⟩
              have hneS := swapE hLn hlt hh hne2
              simp only [hneS, decide_false, Bool.not_false, coreS, Value.cells, Value.oneCell', Nat.reduceAdd, Nat.reduceSub, Nat.reduceMul, Nat.reduceLeDiff, Int.reduceEq, Nat.reduceEqDiff, S4Fs11]
              refine CallsH.mono (works ((x6.trans x8).trans x10)) ?_
              rintro v h11 ⟨rfl, x11⟩
              simp only [coreS, Value.cells, Value.oneCell', Nat.reduceAdd, Nat.reduceSub, Nat.reduceMul, Nat.reduceLeDiff, Int.reduceEq, Nat.reduceEqDiff, S4Fs11]
              exact x11
          · have hne := chgE hLn hpl hsg.1 s1 s2
            rw [hE2] at hne
            simp only [s1, s2, hgp, gd_none, decide_true, decide_false, Int.toNat_natCast, Bool.not_false, coreS, Value.cells, Value.oneCell', Nat.reduceAdd, Nat.reduceSub, Nat.reduceMul, Nat.reduceLeDiff, Int.reduceEq, Nat.reduceEqDiff, S4Fs11]
            refine CallsH.mono (check36 _ h8) ?_
            rintro v h9 ⟨rfl, x9⟩
            simp only [hne, decide_false, coreS, Value.cells, Value.oneCell', Nat.reduceAdd, Nat.reduceSub, Nat.reduceMul, Nat.reduceLeDiff, Int.reduceEq, Nat.reduceEqDiff, S4Fs11]
            refine WP_draw (by kernel_rfl) sta_eq [(0, 0), (1, 0), (2, 0), (3, 0), (4, 0), (5, 0), (6, 0)] (by kernel_rfl) rfl (by kernel_rfl) ?_
            simp only [Int.toNat_natCast, coreS, Value.cells, Value.oneCell', Nat.reduceAdd, Nat.reduceSub, Nat.reduceMul, Nat.reduceLeDiff, Int.reduceEq, Nat.reduceEqDiff, drawS, S4Fs11]
            refine ⟨hgp, hgq, fun _ => ?_, fun s3 => ?_⟩
            · refine CallsH.mono (works ((x6.trans x8).trans x9)) ?_
              rintro v h10 ⟨rfl, x10⟩
              simp only [coreS, Value.cells, Value.oneCell', Nat.reduceAdd, Nat.reduceSub, Nat.reduceMul, Nat.reduceLeDiff, Int.reduceEq, Nat.reduceEqDiff, S4Fs11]
              exact x10
            · obtain ⟨lo, hi2, emin, emax, hlt, hh, hne2⟩ : ∃ lo hi2 : Nat, (if (q' : Int) < p' then (q' : Int) else p') = lo ∧ (if (p' : Int) < q' then (q' : Int) else p') = hi2 ∧ lo < hi2 ∧ hi2 < L.size ∧ L.data.getD lo 0 ≠ L.data.getD hi2 0 := by
                have hpq : p' ≠ q' := fun e => s3 (by rw [e])
                have hb : L.data.getD p' 0 ≠ L.data.getD q' 0 := fun e => s3 (by rw [e])
                by_cases h1 : q' < p'
                · exact ⟨q', p', if_pos (by omega), if_neg (by omega), h1, hpl, hb.symm⟩
                · exact ⟨p', q', if_neg (by omega), if_pos (by omega), by omega, hql, hb⟩
              simp only [emin, emax, coreS, Value.cells, Value.oneCell', Nat.reduceAdd, Nat.reduceSub, Nat.reduceMul, Nat.reduceLeDiff, Int.reduceEq, Nat.reduceEqDiff, S4Fs11]
              have e1 : (lo : Int) + 1 = ((lo + 1 : Nat) : Int) := by omega
              have e2 : (hi2 : Int) + 1 = ((hi2 + 1 : Nat) : Int) := by omega
              refine WP_draw (by kernel_rfl) sta_eq [(0, 0), (1, 0), (2, 0), (3, 0), (4, 0), (5, 0), (6, 0), (7, 0), (8, 0), (9, 0), (10, 0), (11, 0), (12, 0), (13, 0), (14, 0), (15, 0), (16, 0), (17, 0), (18, 0), (19, 0), (20, 0), (21, 0), (22, 0), (23, 0), (24, 0), (25, 0), (26, 0)] (by kernel_rfl) rfl (by kernel_rfl) ?_
              simp only [e1, e2, Int.toNat_natCast, coreS, Value.cells, Value.oneCell', Nat.reduceAdd, Nat.reduceSub, Nat.reduceMul, Nat.reduceLeDiff, Int.reduceEq, Nat.reduceEqDiff, drawS, S4Fs11]
              have y0 : (L.extract 0 lo).size = lo := by rw [ex_size _ _ _ (by omega) (by omega)]; omega
              have y1 : (L.extract hi2 (hi2 + 1)).size = 1 := by rw [ex_size _ _ _ (by omega) (by omega)]; omega
              have y2 : (L.extract (lo + 1) hi2).size = hi2 - (lo + 1) := ex_size _ _ _ (by omega) (by omega)
              have y3 : (L.extract lo (lo + 1)).size = 1 := by rw [ex_size _ _ _ (by omega) (by omega)]; omega
              have y4 : (L.extract (hi2 + 1) L.size).size = L.size - (hi2 + 1) := ex_size _ _ _ (by omega) (by omega)
              refine ⟨by decide, by omega, by omega, by rw [inK_i64]; omega, by omega, by omega, by omega, by simp only [ByteArray.size_append, y0, y1]; omega, by rw [inK_i64]; omega, by omega, by omega, by omega, by simp only [ByteArray.size_append, y0, y1, y2]; omega, by rw [inK_i64]; omega, by omega, by omega, by omega, by simp only [ByteArray.size_append, y0, y1, y2, y3]; omega, by rw [inK_i64]; omega, by omega, by omega, by omega, by simp only [ByteArray.size_append, y0, y1, y2, y3, y4]; omega, ?_⟩
              refine CallsH.mono (check36 _ _) ?_
              rintro v h10 ⟨rfl, x10⟩
              have hneS := swapE hLn hlt hh hne2
              simp only [hneS, decide_false, Bool.not_false, coreS, Value.cells, Value.oneCell', Nat.reduceAdd, Nat.reduceSub, Nat.reduceMul, Nat.reduceLeDiff, Int.reduceEq, Nat.reduceEqDiff, S4Fs11]
              refine CallsH.mono (works (((x6.trans x8).trans x9).trans x10)) ?_
              rintro v h11 ⟨rfl, x11⟩
              simp only [coreS, Value.cells, Value.oneCell', Nat.reduceAdd, Nat.reduceSub, Nat.reduceMul, Nat.reduceLeDiff, Int.reduceEq, Nat.reduceEqDiff, S4Fs11]
              exact x11
        · skip
          · simp only [s1, gd_none, decide_false, coreS, Value.cells, Value.oneCell', Nat.reduceAdd, Nat.reduceSub, Nat.reduceMul, Nat.reduceLeDiff, Int.reduceEq, Nat.reduceEqDiff, S4Fs11]
            refine WP_draw (by kernel_rfl) sta_eq [(0, 0), (1, 0), (2, 0), (3, 0), (4, 0), (5, 0), (6, 0)] (by kernel_rfl) rfl (by kernel_rfl) ?_
            simp only [Int.toNat_natCast, coreS, Value.cells, Value.oneCell', Nat.reduceAdd, Nat.reduceSub, Nat.reduceMul, Nat.reduceLeDiff, Int.reduceEq, Nat.reduceEqDiff, drawS, S4Fs11]
            refine ⟨hgp, hgq, fun _ => ?_, fun s3 => ?_⟩
            · refine CallsH.mono (works (x6.trans x8)) ?_
              rintro v h10 ⟨rfl, x10⟩
              simp only [coreS, Value.cells, Value.oneCell', Nat.reduceAdd, Nat.reduceSub, Nat.reduceMul, Nat.reduceLeDiff, Int.reduceEq, Nat.reduceEqDiff, S4Fs11]
              exact x10
            · obtain ⟨lo, hi2, emin, emax, hlt, hh, hne2⟩ : ∃ lo hi2 : Nat, (if (q' : Int) < p' then (q' : Int) else p') = lo ∧ (if (p' : Int) < q' then (q' : Int) else p') = hi2 ∧ lo < hi2 ∧ hi2 < L.size ∧ L.data.getD lo 0 ≠ L.data.getD hi2 0 := by
                have hpq : p' ≠ q' := fun e => s3 (by rw [e])
                have hb : L.data.getD p' 0 ≠ L.data.getD q' 0 := fun e => s3 (by rw [e])
                by_cases h1 : q' < p'
                · exact ⟨q', p', if_pos (by omega), if_neg (by omega), h1, hpl, hb.symm⟩
                · exact ⟨p', q', if_neg (by omega), if_pos (by omega), by omega, hql, hb⟩
              simp only [emin, emax, coreS, Value.cells, Value.oneCell', Nat.reduceAdd, Nat.reduceSub, Nat.reduceMul, Nat.reduceLeDiff, Int.reduceEq, Nat.reduceEqDiff, S4Fs11]
              have e1 : (lo : Int) + 1 = ((lo + 1 : Nat) : Int) := by omega
              have e2 : (hi2 : Int) + 1 = ((hi2 + 1 : Nat) : Int) := by omega
              refine WP_draw (by kernel_rfl) sta_eq [(0, 0), (1, 0), (2, 0), (3, 0), (4, 0), (5, 0), (6, 0), (7, 0), (8, 0), (9, 0), (10, 0), (11, 0), (12, 0), (13, 0), (14, 0), (15, 0), (16, 0), (17, 0), (18, 0), (19, 0), (20, 0), (21, 0), (22, 0), (23, 0), (24, 0), (25, 0), (26, 0)] (by kernel_rfl) rfl (by kernel_rfl) ?_
              simp only [e1, e2, Int.toNat_natCast, coreS, Value.cells, Value.oneCell', Nat.reduceAdd, Nat.reduceSub, Nat.reduceMul, Nat.reduceLeDiff, Int.reduceEq, Nat.reduceEqDiff, drawS, S4Fs11]
              have y0 : (L.extract 0 lo).size = lo := by rw [ex_size _ _ _ (by omega) (by omega)]; omega
              have y1 : (L.extract hi2 (hi2 + 1)).size = 1 := by rw [ex_size _ _ _ (by omega) (by omega)]; omega
              have y2 : (L.extract (lo + 1) hi2).size = hi2 - (lo + 1) := ex_size _ _ _ (by omega) (by omega)
              have y3 : (L.extract lo (lo + 1)).size = 1 := by rw [ex_size _ _ _ (by omega) (by omega)]; omega
              have y4 : (L.extract (hi2 + 1) L.size).size = L.size - (hi2 + 1) := ex_size _ _ _ (by omega) (by omega)
              refine ⟨by decide, by omega, by omega, by rw [inK_i64]; omega, by omega, by omega, by omega, by simp only [ByteArray.size_append, y0, y1]; omega, by rw [inK_i64]; omega, by omega, by omega, by omega, by simp only [ByteArray.size_append, y0, y1, y2]; omega, by rw [inK_i64]; omega, by omega, by omega, by omega, by simp only [ByteArray.size_append, y0, y1, y2, y3]; omega, by rw [inK_i64]; omega, by omega, by omega, by omega, by simp only [ByteArray.size_append, y0, y1, y2, y3, y4]; omega, ?_⟩
              refine CallsH.mono (check36 _ _) ?_
              rintro v h10 ⟨rfl, x10⟩
              have hneS := swapE hLn hlt hh hne2
              simp only [hneS, decide_false, Bool.not_false, coreS, Value.cells, Value.oneCell', Nat.reduceAdd, Nat.reduceSub, Nat.reduceMul, Nat.reduceLeDiff, Int.reduceEq, Nat.reduceEqDiff, S4Fs11]
              refine CallsH.mono (works ((x6.trans x8).trans x10)) ?_
              rintro v h11 ⟨rfl, x11⟩
              simp only [coreS, Value.cells, Value.oneCell', Nat.reduceAdd, Nat.reduceSub, Nat.reduceMul, Nat.reduceLeDiff, Int.reduceEq, Nat.reduceEqDiff, S4Fs11]
              exact x11
    · skip
      obtain ⟨bz, hbz⟩ : ∃ bz, decide ((T.size : Int) = 0) = bz := ⟨_, rfl⟩
      simp only [h1, hg10, hg9, hbz, gd_none, decide_true, decide_false, coreS, Value.cells, Value.oneCell', Nat.reduceAdd, Nat.reduceSub, Nat.reduceMul, Nat.reduceLeDiff, Int.reduceEq, Nat.reduceEqDiff, S4Fs11]
      refine cd_cut [9, 44] (fun g h5 => h5 = h' ∧ ∃ T', g 9 = .string T' ∧ text T' = true) ?_ ?_
      · cases bz with
        | false =>
          have h0 := of_decide_eq_false hbz
          simp only [coreS, Value.cells, Value.oneCell', Nat.reduceAdd, Nat.reduceSub, Nat.reduceMul, Nat.reduceLeDiff, Int.reduceEq, Nat.reduceEqDiff, S4Fs11]
          exact midK_mk (by kernel_rfl) ⟨rfl, T, rfl, (text_iff T).2 ⟨by omega, fun j hj => htx j (by omega)⟩⟩
        | true =>
          simp only [coreS, Value.cells, Value.oneCell', Nat.reduceAdd, Nat.reduceSub, Nat.reduceMul, Nat.reduceLeDiff, Int.reduceEq, Nat.reduceEqDiff, S4Fs11]
          exact midK_mk (by kernel_rfl) ⟨rfl, ⟨#[48]⟩, rfl, by decide⟩
      · rintro g5 h5 ⟨rfl, T', hg9, ht⟩
        have hts := text_size ht
        simp only [hg9, coreS, Value.cells, Value.oneCell', Nat.reduceAdd, Nat.reduceSub, Nat.reduceMul, Nat.reduceLeDiff, Int.reduceEq, Nat.reduceEqDiff, S4Fs11]
        refine CallsH.mono (sign34 T' h5 (by omega)) ?_
        rintro v h6 ⟨rfl, x6⟩
        have hsv : sgnV T' = .tuple #[.string (signS T'), .int .i64 0] := by rw [sgnV, sgn, if_neg (by omega), if_pos ht]
        have hsz : (((signS T').size : Nat) : Int) = 1 := rfl
        simp only [hsv, hsz, gd_none, decide_true, decide_false, Bool.not_true, Bool.not_false, coreS, Value.cells, Value.oneCell', Nat.reduceAdd, Nat.reduceSub, Nat.reduceMul, Nat.reduceLeDiff, Int.reduceEq, Nat.reduceEqDiff, S4Fs11]
        refine CallsH.mono (signOf46 T' h6 ht) ?_
        rintro v h7 ⟨rfl, rfl⟩
        simp only [decide_true, Bool.not_true, coreS, Value.cells, Value.oneCell', Nat.reduceAdd, Nat.reduceSub, Nat.reduceMul, Nat.reduceLeDiff, Int.reduceEq, Nat.reduceEqDiff, S4Fs11]
        have b1 : (⟨#[32]⟩ : ByteArray).size = 1 := rfl
        refine ⟨by rw [b1]; omega, by rw [ByteArray.size_append, b1, sig_size]; omega, ?_⟩
        obtain ⟨L, hL⟩ : ∃ L, T' ++ ⟨#[32]⟩ ++ signS T' = L := ⟨_, rfl⟩
        have hLn := line_new ht
        rw [hL] at hLn
        have hLs : L.size = T'.size + 2 := by rw [← bl_length]; exact hLn.len
        rw [hL]
        clear hL
        obtain ⟨p', hp'⟩ : ∃ p', p.toNat % L.size = p' := ⟨_, rfl⟩
        obtain ⟨q', hq'⟩ : ∃ q', q.toNat % L.size = q' := ⟨_, rfl⟩
        have hpl : p' < L.size := by rw [← hp']; exact Nat.mod_lt _ (by omega)
        have hql : q' < L.size := by rw [← hq']; exact Nat.mod_lt _ (by omega)
        have eP : p.tmod (L.size : Int) = (p' : Int) := by rw [mod_toNat hp.1, hp']
        have eQ : q.tmod (L.size : Int) = (q' : Int) := by rw [mod_toNat hq.1, hq']
        refine WP_draw (by kernel_rfl) sta_eq [(0, 0), (1, 0), (2, 0), (3, 0), (4, 0), (5, 0), (6, 0), (7, 0), (8, 0), (9, 0), (10, 0), (11, 0)] (by kernel_rfl) rfl (by kernel_rfl) ?_
        simp only [eP, eQ, coreS, Value.cells, Value.oneCell', Nat.reduceAdd, Nat.reduceSub, Nat.reduceMul, Nat.reduceLeDiff, Int.reduceEq, Nat.reduceEqDiff, drawS, S4Fs11]
        refine ⟨by rw [inK_i64]; omega, by omega, by rw [inK_i64]; omega, by omega, ?_⟩
        refine CallsH.mono (check36 L h7) ?_
        rintro v h8 ⟨rfl, x8⟩
        have hE : lineE L = 0 := (lineE_iff L).2 ⟨_, hLn⟩
        simp only [hE, decide_true, Bool.not_true, coreS, Value.cells, Value.oneCell', Nat.reduceAdd, Nat.reduceSub, Nat.reduceMul, Nat.reduceLeDiff, Int.reduceEq, Nat.reduceEqDiff, S4Fs11]
        refine WP_draw (by kernel_rfl) sta_eq [(0, 0), (1, 0), (2, 0), (3, 0), (4, 0), (5, 0), (6, 0), (7, 0), (8, 0), (9, 0), (10, 0), (11, 0), (12, 0)] (by kernel_rfl) rfl (by kernel_rfl) ?_
        simp only [Int.toNat_natCast, cvW_int_str, coreS, Value.cells, Value.oneCell', Nat.reduceAdd, Nat.reduceSub, Nat.reduceMul, Nat.reduceLeDiff, Int.reduceEq, Nat.reduceEqDiff, drawS, S4Fs11]
        refine ⟨by decide, by omega, by omega, by rw [inK_i32]; omega, convQ (by rfl) ?_⟩
        obtain ⟨E, hE2⟩ : ∃ E, Utf8.encode sg = E := ⟨_, rfl⟩
        have hEs : E.size ≤ 2 := by
          rw [← hE2]
          have := enc_small ⟨sg.toNat, by omega⟩
          rwa [show ((⟨sg.toNat, by omega⟩ : Fin 256).1 : Int) = sg by show ((sg.toNat : Nat) : Int) = sg; omega] at this
        have ep1 : (p' : Int) + 1 = ((p' + 1 : Nat) : Int) := by omega
        have x0 : (L.extract 0 p').size = p' := by rw [ex_size _ _ _ (by omega) (by omega)]; omega
        have x1 : (L.extract (p' + 1) L.size).size = L.size - (p' + 1) := ex_size _ _ _ (by omega) (by omega)
        simp only [hE2, ep1, Int.toNat_natCast, coreS, Value.cells, Value.oneCell', Nat.reduceAdd, Nat.reduceSub, Nat.reduceMul, Nat.reduceLeDiff, Int.reduceEq, Nat.reduceEqDiff, drawS, S4Fs11]
        refine ⟨by rw [x0]; omega, by rw [inK_i64]; omega, by omega, by omega, by omega, by rw [ByteArray.size_append, x0, x1]; omega, ?_⟩
        have hgp : (0 : Int) ≤ (p' : Int) ∧ (p' : Int) < L.size := by omega
        have hgq : (0 : Int) ≤ (q' : Int) ∧ (q' : Int) < L.size := by omega
        by_cases s1 : sg < 128
        · by_cases s2 : sg = ((L.data.getD p' 0).toNat : Int)
          · simp only [s1, hgp, ← s2, gd_none, decide_true, Int.toNat_natCast, Bool.not_true, coreS, Value.cells, Value.oneCell', Nat.reduceAdd, Nat.reduceSub, Nat.reduceMul, Nat.reduceLeDiff, Int.reduceEq, Nat.reduceEqDiff, S4Fs11]
            refine WP_draw (by kernel_rfl) sta_eq [(0, 0), (1, 0), (2, 0), (3, 0), (4, 0), (5, 0), (6, 0)] (by kernel_rfl) rfl (by kernel_rfl) ?_
            simp only [Int.toNat_natCast, coreS, Value.cells, Value.oneCell', Nat.reduceAdd, Nat.reduceSub, Nat.reduceMul, Nat.reduceLeDiff, Int.reduceEq, Nat.reduceEqDiff, drawS, S4Fs11]
            refine ⟨hgp, hgq, fun _ => ?_, fun s3 => ?_⟩
            · refine CallsH.mono (works (x6.trans x8)) ?_
              rintro v h10 ⟨rfl, x10⟩
              simp only [coreS, Value.cells, Value.oneCell', Nat.reduceAdd, Nat.reduceSub, Nat.reduceMul, Nat.reduceLeDiff, Int.reduceEq, Nat.reduceEqDiff, S4Fs11]
              exact x10
            · obtain ⟨lo, hi2, emin, emax, hlt, hh, hne2⟩ : ∃ lo hi2 : Nat, (if (q' : Int) < p' then (q' : Int) else p') = lo ∧ (if (p' : Int) < q' then (q' : Int) else p') = hi2 ∧ lo < hi2 ∧ hi2 < L.size ∧ L.data.getD lo 0 ≠ L.data.getD hi2 0 := by
                have hpq : p' ≠ q' := fun e => s3 (by rw [e])
                have hb : L.data.getD p' 0 ≠ L.data.getD q' 0 := fun e => s3 (by rw [e])
                by_cases h1 : q' < p'
                · exact ⟨q', p', if_pos (by omega), if_neg (by omega), h1, hpl, hb.symm⟩
                · exact ⟨p', q', if_neg (by omega), if_pos (by omega), by omega, hql, hb⟩
              simp only [emin, emax, coreS, Value.cells, Value.oneCell', Nat.reduceAdd, Nat.reduceSub, Nat.reduceMul, Nat.reduceLeDiff, Int.reduceEq, Nat.reduceEqDiff, S4Fs11]
              have e1 : (lo : Int) + 1 = ((lo + 1 : Nat) : Int) := by omega
              have e2 : (hi2 : Int) + 1 = ((hi2 + 1 : Nat) : Int) := by omega
              refine WP_draw (by kernel_rfl) sta_eq [(0, 0), (1, 0), (2, 0), (3, 0), (4, 0), (5, 0), (6, 0), (7, 0), (8, 0), (9, 0), (10, 0), (11, 0), (12, 0), (13, 0), (14, 0), (15, 0), (16, 0), (17, 0), (18, 0), (19, 0), (20, 0), (21, 0), (22, 0), (23, 0), (24, 0), (25, 0), (26, 0)] (by kernel_rfl) rfl (by kernel_rfl) ?_
              simp only [e1, e2, Int.toNat_natCast, coreS, Value.cells, Value.oneCell', Nat.reduceAdd, Nat.reduceSub, Nat.reduceMul, Nat.reduceLeDiff, Int.reduceEq, Nat.reduceEqDiff, drawS, S4Fs11]
              have y0 : (L.extract 0 lo).size = lo := by rw [ex_size _ _ _ (by omega) (by omega)]; omega
              have y1 : (L.extract hi2 (hi2 + 1)).size = 1 := by rw [ex_size _ _ _ (by omega) (by omega)]; omega
              have y2 : (L.extract (lo + 1) hi2).size = hi2 - (lo + 1) := ex_size _ _ _ (by omega) (by omega)
              have y3 : (L.extract lo (lo + 1)).size = 1 := by rw [ex_size _ _ _ (by omega) (by omega)]; omega
              have y4 : (L.extract (hi2 + 1) L.size).size = L.size - (hi2 + 1) := ex_size _ _ _ (by omega) (by omega)
              refine ⟨by decide, by omega, by omega, by rw [inK_i64]; omega, by omega, by omega, by omega, by simp only [ByteArray.size_append, y0, y1]; omega, by rw [inK_i64]; omega, by omega, by omega, by omega, by simp only [ByteArray.size_append, y0, y1, y2]; omega, by rw [inK_i64]; omega, by omega, by omega, by omega, by simp only [ByteArray.size_append, y0, y1, y2, y3]; omega, by rw [inK_i64]; omega, by omega, by omega, by omega, by simp only [ByteArray.size_append, y0, y1, y2, y3, y4]; omega, ?_⟩
              refine CallsH.mono (check36 _ _) ?_
              rintro v h10 ⟨rfl, x10⟩
              have hneS := swapE hLn hlt hh hne2
              simp only [hneS, decide_false, Bool.not_false, coreS, Value.cells, Value.oneCell', Nat.reduceAdd, Nat.reduceSub, Nat.reduceMul, Nat.reduceLeDiff, Int.reduceEq, Nat.reduceEqDiff, S4Fs11]
              refine CallsH.mono (works ((x6.trans x8).trans x10)) ?_
              rintro v h11 ⟨rfl, x11⟩
              simp only [coreS, Value.cells, Value.oneCell', Nat.reduceAdd, Nat.reduceSub, Nat.reduceMul, Nat.reduceLeDiff, Int.reduceEq, Nat.reduceEqDiff, S4Fs11]
              exact x11
          · have hne := chgE hLn hpl hsg.1 s1 s2
            rw [hE2] at hne
            simp only [s1, s2, hgp, gd_none, decide_true, decide_false, Int.toNat_natCast, Bool.not_false, coreS, Value.cells, Value.oneCell', Nat.reduceAdd, Nat.reduceSub, Nat.reduceMul, Nat.reduceLeDiff, Int.reduceEq, Nat.reduceEqDiff, S4Fs11]
            refine CallsH.mono (check36 _ h8) ?_
            rintro v h9 ⟨rfl, x9⟩
            simp only [hne, decide_false, coreS, Value.cells, Value.oneCell', Nat.reduceAdd, Nat.reduceSub, Nat.reduceMul, Nat.reduceLeDiff, Int.reduceEq, Nat.reduceEqDiff, S4Fs11]
            refine WP_draw (by kernel_rfl) sta_eq [(0, 0), (1, 0), (2, 0), (3, 0), (4, 0), (5, 0), (6, 0)] (by kernel_rfl) rfl (by kernel_rfl) ?_
            simp only [Int.toNat_natCast, coreS, Value.cells, Value.oneCell', Nat.reduceAdd, Nat.reduceSub, Nat.reduceMul, Nat.reduceLeDiff, Int.reduceEq, Nat.reduceEqDiff, drawS, S4Fs11]
            refine ⟨hgp, hgq, fun _ => ?_, fun s3 => ?_⟩
            · refine CallsH.mono (works ((x6.trans x8).trans x9)) ?_
              rintro v h10 ⟨rfl, x10⟩
              simp only [coreS, Value.cells, Value.oneCell', Nat.reduceAdd, Nat.reduceSub, Nat.reduceMul, Nat.reduceLeDiff, Int.reduceEq, Nat.reduceEqDiff, S4Fs11]
              exact x10
            · obtain ⟨lo, hi2, emin, emax, hlt, hh, hne2⟩ : ∃ lo hi2 : Nat, (if (q' : Int) < p' then (q' : Int) else p') = lo ∧ (if (p' : Int) < q' then (q' : Int) else p') = hi2 ∧ lo < hi2 ∧ hi2 < L.size ∧ L.data.getD lo 0 ≠ L.data.getD hi2 0 := by
                have hpq : p' ≠ q' := fun e => s3 (by rw [e])
                have hb : L.data.getD p' 0 ≠ L.data.getD q' 0 := fun e => s3 (by rw [e])
                by_cases h1 : q' < p'
                · exact ⟨q', p', if_pos (by omega), if_neg (by omega), h1, hpl, hb.symm⟩
                · exact ⟨p', q', if_neg (by omega), if_pos (by omega), by omega, hql, hb⟩
              simp only [emin, emax, coreS, Value.cells, Value.oneCell', Nat.reduceAdd, Nat.reduceSub, Nat.reduceMul, Nat.reduceLeDiff, Int.reduceEq, Nat.reduceEqDiff, S4Fs11]
              have e1 : (lo : Int) + 1 = ((lo + 1 : Nat) : Int) := by omega
              have e2 : (hi2 : Int) + 1 = ((hi2 + 1 : Nat) : Int) := by omega
              refine WP_draw (by kernel_rfl) sta_eq [(0, 0), (1, 0), (2, 0), (3, 0), (4, 0), (5, 0), (6, 0), (7, 0), (8, 0), (9, 0), (10, 0), (11, 0), (12, 0), (13, 0), (14, 0), (15, 0), (16, 0), (17, 0), (18, 0), (19, 0), (20, 0), (21, 0), (22, 0), (23, 0), (24, 0), (25, 0), (26, 0)] (by kernel_rfl) rfl (by kernel_rfl) ?_
              simp only [e1, e2, Int.toNat_natCast, coreS, Value.cells, Value.oneCell', Nat.reduceAdd, Nat.reduceSub, Nat.reduceMul, Nat.reduceLeDiff, Int.reduceEq, Nat.reduceEqDiff, drawS, S4Fs11]
              have y0 : (L.extract 0 lo).size = lo := by rw [ex_size _ _ _ (by omega) (by omega)]; omega
              have y1 : (L.extract hi2 (hi2 + 1)).size = 1 := by rw [ex_size _ _ _ (by omega) (by omega)]; omega
              have y2 : (L.extract (lo + 1) hi2).size = hi2 - (lo + 1) := ex_size _ _ _ (by omega) (by omega)
              have y3 : (L.extract lo (lo + 1)).size = 1 := by rw [ex_size _ _ _ (by omega) (by omega)]; omega
              have y4 : (L.extract (hi2 + 1) L.size).size = L.size - (hi2 + 1) := ex_size _ _ _ (by omega) (by omega)
              refine ⟨by decide, by omega, by omega, by rw [inK_i64]; omega, by omega, by omega, by omega, by simp only [ByteArray.size_append, y0, y1]; omega, by rw [inK_i64]; omega, by omega, by omega, by omega, by simp only [ByteArray.size_append, y0, y1, y2]; omega, by rw [inK_i64]; omega, by omega, by omega, by omega, by simp only [ByteArray.size_append, y0, y1, y2, y3]; omega, by rw [inK_i64]; omega, by omega, by omega, by omega, by simp only [ByteArray.size_append, y0, y1, y2, y3, y4]; omega, ?_⟩
              refine CallsH.mono (check36 _ _) ?_
              rintro v h10 ⟨rfl, x10⟩
              have hneS := swapE hLn hlt hh hne2
              simp only [hneS, decide_false, Bool.not_false, coreS, Value.cells, Value.oneCell', Nat.reduceAdd, Nat.reduceSub, Nat.reduceMul, Nat.reduceLeDiff, Int.reduceEq, Nat.reduceEqDiff, S4Fs11]
              refine CallsH.mono (works (((x6.trans x8).trans x9).trans x10)) ?_
              rintro v h11 ⟨rfl, x11⟩
              simp only [coreS, Value.cells, Value.oneCell', Nat.reduceAdd, Nat.reduceSub, Nat.reduceMul, Nat.reduceLeDiff, Int.reduceEq, Nat.reduceEqDiff, S4Fs11]
              exact x11
        · skip
          · simp only [s1, gd_none, decide_false, coreS, Value.cells, Value.oneCell', Nat.reduceAdd, Nat.reduceSub, Nat.reduceMul, Nat.reduceLeDiff, Int.reduceEq, Nat.reduceEqDiff, S4Fs11]
            refine WP_draw (by kernel_rfl) sta_eq [(0, 0), (1, 0), (2, 0), (3, 0), (4, 0), (5, 0), (6, 0)] (by kernel_rfl) rfl (by kernel_rfl) ?_
            simp only [Int.toNat_natCast, coreS, Value.cells, Value.oneCell', Nat.reduceAdd, Nat.reduceSub, Nat.reduceMul, Nat.reduceLeDiff, Int.reduceEq, Nat.reduceEqDiff, drawS, S4Fs11]
            refine ⟨hgp, hgq, fun _ => ?_, fun s3 => ?_⟩
            · refine CallsH.mono (works (x6.trans x8)) ?_
              rintro v h10 ⟨rfl, x10⟩
              simp only [coreS, Value.cells, Value.oneCell', Nat.reduceAdd, Nat.reduceSub, Nat.reduceMul, Nat.reduceLeDiff, Int.reduceEq, Nat.reduceEqDiff, S4Fs11]
              exact x10
            · obtain ⟨lo, hi2, emin, emax, hlt, hh, hne2⟩ : ∃ lo hi2 : Nat, (if (q' : Int) < p' then (q' : Int) else p') = lo ∧ (if (p' : Int) < q' then (q' : Int) else p') = hi2 ∧ lo < hi2 ∧ hi2 < L.size ∧ L.data.getD lo 0 ≠ L.data.getD hi2 0 := by
                have hpq : p' ≠ q' := fun e => s3 (by rw [e])
                have hb : L.data.getD p' 0 ≠ L.data.getD q' 0 := fun e => s3 (by rw [e])
                by_cases h1 : q' < p'
                · exact ⟨q', p', if_pos (by omega), if_neg (by omega), h1, hpl, hb.symm⟩
                · exact ⟨p', q', if_neg (by omega), if_pos (by omega), by omega, hql, hb⟩
              simp only [emin, emax, coreS, Value.cells, Value.oneCell', Nat.reduceAdd, Nat.reduceSub, Nat.reduceMul, Nat.reduceLeDiff, Int.reduceEq, Nat.reduceEqDiff, S4Fs11]
              have e1 : (lo : Int) + 1 = ((lo + 1 : Nat) : Int) := by omega
              have e2 : (hi2 : Int) + 1 = ((hi2 + 1 : Nat) : Int) := by omega
              refine WP_draw (by kernel_rfl) sta_eq [(0, 0), (1, 0), (2, 0), (3, 0), (4, 0), (5, 0), (6, 0), (7, 0), (8, 0), (9, 0), (10, 0), (11, 0), (12, 0), (13, 0), (14, 0), (15, 0), (16, 0), (17, 0), (18, 0), (19, 0), (20, 0), (21, 0), (22, 0), (23, 0), (24, 0), (25, 0), (26, 0)] (by kernel_rfl) rfl (by kernel_rfl) ?_
              simp only [e1, e2, Int.toNat_natCast, coreS, Value.cells, Value.oneCell', Nat.reduceAdd, Nat.reduceSub, Nat.reduceMul, Nat.reduceLeDiff, Int.reduceEq, Nat.reduceEqDiff, drawS, S4Fs11]
              have y0 : (L.extract 0 lo).size = lo := by rw [ex_size _ _ _ (by omega) (by omega)]; omega
              have y1 : (L.extract hi2 (hi2 + 1)).size = 1 := by rw [ex_size _ _ _ (by omega) (by omega)]; omega
              have y2 : (L.extract (lo + 1) hi2).size = hi2 - (lo + 1) := ex_size _ _ _ (by omega) (by omega)
              have y3 : (L.extract lo (lo + 1)).size = 1 := by rw [ex_size _ _ _ (by omega) (by omega)]; omega
              have y4 : (L.extract (hi2 + 1) L.size).size = L.size - (hi2 + 1) := ex_size _ _ _ (by omega) (by omega)
              refine ⟨by decide, by omega, by omega, by rw [inK_i64]; omega, by omega, by omega, by omega, by simp only [ByteArray.size_append, y0, y1]; omega, by rw [inK_i64]; omega, by omega, by omega, by omega, by simp only [ByteArray.size_append, y0, y1, y2]; omega, by rw [inK_i64]; omega, by omega, by omega, by omega, by simp only [ByteArray.size_append, y0, y1, y2, y3]; omega, by rw [inK_i64]; omega, by omega, by omega, by omega, by simp only [ByteArray.size_append, y0, y1, y2, y3, y4]; omega, ?_⟩
              refine CallsH.mono (check36 _ _) ?_
              rintro v h10 ⟨rfl, x10⟩
              have hneS := swapE hLn hlt hh hne2
              simp only [hneS, decide_false, Bool.not_false, coreS, Value.cells, Value.oneCell', Nat.reduceAdd, Nat.reduceSub, Nat.reduceMul, Nat.reduceLeDiff, Int.reduceEq, Nat.reduceEqDiff, S4Fs11]
              refine CallsH.mono (works ((x6.trans x8).trans x10)) ?_
              rintro v h11 ⟨rfl, x11⟩
              simp only [coreS, Value.cells, Value.oneCell', Nat.reduceAdd, Nat.reduceSub, Nat.reduceMul, Nat.reduceLeDiff, Int.reduceEq, Nat.reduceEqDiff, S4Fs11]
              exact x11
end Go.Proofs.YtepaekbjoombpaaGreatDoor
