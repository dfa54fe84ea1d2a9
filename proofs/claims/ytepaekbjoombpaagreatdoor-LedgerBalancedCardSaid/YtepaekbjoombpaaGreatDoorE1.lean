/- LedgerBalanced returns true. -/
import Derived.Test.YtepaekbjoombpaaGreatDoorD2
import Derived.Test.YtepaekbjoombpaaGreatDoorWork
namespace Go.Proofs.YtepaekbjoombpaaGreatDoor
open Go Go.Proofs Go.Eng Go.Run Tab
set_option maxRecDepth 100000
set_option linter.unusedSimpArgs false
set_option linter.unusedVariables false
set_option maxHeartbeats 4000000
set_option linter.defProp false
def E1Fs7 := (And.intro (And.intro (And.intro (And.intro @agg2 @agg24) (And.intro @agg26 @agg3)) (And.intro (And.intro @by2 @fo26_0) (And.intro @fo26_1 (And.intro @fo26_2 @fo26_3)))) (And.intro (And.intro (And.intro @inf2 @inf24) (And.intro @inf26 (And.intro @inf3 @sz2))) (And.intro (And.intro @sz24 @sz26) (And.intro @sz3 (And.intro @zero24 @Tryz.underlying37)))))
theorem sum_next {xs : List Int} {i : Nat} (hi : i < xs.length) : (xs.take (i + 1)).sum = (xs.take i).sum + xs.getD i 0 := by
  rw [List.take_add_one, List.getElem?_eq_getElem hi, List.sum_append]
  simp [List.getD, List.getElem?_eq_getElem hi]
theorem sum_bound {b : Int} (hb : 0 ≤ b) : ∀ (xs : List Int), (∀ x ∈ xs, -b ≤ x ∧ x ≤ b) → -(b * xs.length) ≤ xs.sum ∧ xs.sum ≤ b * xs.length
  | [], _ => by simp
  | x :: xs, H => by
    have h1 := H x (List.mem_cons_self ..)
    have h2 := sum_bound hb xs fun y hy => H y (List.mem_cons_of_mem _ hy)
    rw [List.sum_cons, List.length_cons]
    push_cast
    rw [Int.mul_add]
    omega
theorem balanced7 (acc cl : Int) (a : Option Addr) (n c : Nat) (es : List En) (e : En) (number : Int) (h : Eng.Heap) (hr : Row h a (ensV es)) (hn : n = es.length) (hnum : 0 ≤ number ∧ number ≤ 255) :
    CallsH Tryz.prog 7 #[.agg #[.int .i64 acc, .int .i64 cl, .slice a n c], .agg #[.int .i64 e.d, .int .i64 e.f, .int .i64 e.t, .int .i64 e.a], .int .u8 number] h (fun v h' => v = .bool true ∧ Ext h h') := by
  refine CallsH_of_exec Tryz.func7 rfl bod7 ?_
  simp only [Tryz.ntmps7, Tryz.results7, coreS, stK_some, splice, Value.cells, Value.oneCell', Nat.reduceAdd, Nat.reduceSub, Nat.reduceMul, Nat.reduceLeDiff, Int.reduceEq, Nat.reduceEqDiff, E1Fs7]
  have q0 := pn0 (h := h) (o := .cells #[.int .i64 acc, .int .i64 cl, .slice a n c] 24) (o' := .cells #[.int .i64 e.d, .int .i64 e.f, .int .i64 e.t, .int .i64 e.a] 26)
  have q1 := pn1 (h := h) (o := .cells #[.int .i64 acc, .int .i64 cl, .slice a n c] 24) (o' := .cells #[.int .i64 e.d, .int .i64 e.f, .int .i64 e.t, .int .i64 e.a] 26)
  refine CallsH.mono (fine42 acc cl a n c es _ ((hr.push _).push _) hn) ?_
  rintro v h1 ⟨rfl, x1⟩
  have hb1 := x1.get q0
  have he1 := x1.get q1
  have y1 := x1.of_push.of_push
  by_cases hc : chk acc cl es = 0
  · obtain ⟨hac, hl20, hcl, hok, hso, hft⟩ := chk_ok hc
    have hl : n ≤ 1000000 := by omega
    obtain ⟨k, rfl⟩ : ∃ k : Nat, acc = k := ⟨acc.toNat, by omega⟩
    simp only [hc, decide_true, Bool.not_true, coreS, Value.cells, Value.oneCell', Nat.reduceAdd, Nat.reduceSub, Nat.reduceMul, Nat.reduceLeDiff, Int.reduceEq, Nat.reduceEqDiff, E1Fs7]
    refine CallsH.mono (day43 number _ hnum) ?_
    rintro v h2 ⟨rfl, rfl⟩
    obtain ⟨day, hday⟩ : ∃ d, d = number.tmod 31 := ⟨_, rfl⟩
    have hd30 : 0 ≤ day ∧ day ≤ 30 := by subst hday; rw [Int.tmod_eq_emod_of_nonneg hnum.1]; omega
    rw [← hday]
    simp only [hb1, he1, coreS, Value.cells, Value.oneCell', Nat.reduceAdd, Nat.reduceSub, Nat.reduceMul, Nat.reduceLeDiff, Int.reduceEq, Nat.reduceEqDiff, E1Fs7]
    refine CallsH.mono (posted44 k cl a n c es e _ (hr.ext y1) hn hl) ?_
    rintro v h2 ⟨⟨a2, n2, c2, rfl, r2, l2⟩, x2⟩
    have y2 := y1.trans x2
    have hbo := x2.get hb1
    have heo := x2.get he1
    simp only [Nat.ne_of_lt (lt_of_get hbo), Nat.ne_of_lt (lt_of_get heo), hbo, heo, if_false, coreS, stK_some, splice, Value.cells, Value.oneCell', Nat.reduceAdd, Nat.reduceSub, Nat.reduceMul, Nat.reduceLeDiff, Int.reduceEq, Nat.reduceEqDiff, E1Fs7]
    have hb2 := push_old (o := .cells #[.int .i64 k, .int .i64 cl, .slice a2 n2 c2] 24) (x2.get hb1)
    have he2 := push_old (o := .cells #[.int .i64 k, .int .i64 cl, .slice a2 n2 c2] 24) (x2.get he1)
    have hx2 := push_new (h := h2) (o := .cells #[.int .i64 k, .int .i64 cl, .slice a2 n2 c2] 24)
    have z2 := y2.push (.cells #[.int .i64 k, .int .i64 cl, .slice a2 n2 c2] 24)
    have r2' := r2.push (.cells #[.int .i64 k, .int .i64 cl, .slice a2 n2 c2] 24)
    have hcx := chk_pstX (e := e) hc
    have hlx := (chk_ok hcx).2.1
    refine CallsH.mono (balances45 k cl a n c es day _ (hr.ext z2) hn hl) ?_
    rintro v h3 ⟨⟨b3, m3, c3, rfl, I3, hm3⟩, x3⟩
    simp only [x3.get hx2, opn_of hc hd30, decide_true, coreS, Value.cells, Value.oneCell', Nat.reduceAdd, Nat.reduceSub, Nat.reduceMul, Nat.reduceLeDiff, Int.reduceEq, Nat.reduceEqDiff, E1Fs7]
    refine CallsH.mono (balances45 k cl a2 n2 c2 (pstX k cl es e) day _ (r2'.ext x3) l2 (by omega)) ?_
    rintro v h4 ⟨⟨b4, m4, c4, rfl, I4, hm4⟩, x4⟩
    rw [balsR_ok hc hd30, Int.toNat_natCast] at I3
    rw [balsR_ok hcx hd30, Int.toNat_natCast] at I4
    have hl3 := I3.len
    have hl4 := I4.len
    rw [bals_length] at hl3 hl4
    subst hl3 hl4
    simp only [opn_of hcx hd30, decide_true, Bool.not_true, coreS, Value.cells, Value.oneCell', Nat.reduceAdd, Nat.reduceSub, Nat.reduceMul, Nat.reduceLeDiff, Int.reduceEq, Nat.reduceEqDiff, E1Fs7]
    have I3' := I3.ext x4
    have y4 := (z2.trans x3).trans x4
    have he4 := x4.get (x3.get he2)
    have hbd := fun i => balA_bound day i (es := es) hok
    have hlen := bals_length m4 es day
    have hlenX := bals_length m4 (pstX m4 cl es e) day
    have hgx : ∀ i : Nat, i < m4 → (bals m4 (pstX m4 cl es e) day).getD i 0 = (bals m4 es day).getD i 0 + if pst m4 cl es e = 0 then amt day i e else 0 := fun i hi => by
      rw [bals_get _ _ hi, bals_get _ _ hi, balA_pstX]
    have hgb : ∀ i : Nat, i < m4 → -20000 ≤ (bals m4 es day).getD i 0 ∧ (bals m4 es day).getD i 0 ≤ 20000 := fun i hi => by
      rw [bals_get _ _ hi]; have := hbd i; omega
    have hsb : ∀ i : Nat, i ≤ m4 → -160000 ≤ ((bals m4 es day).take i).sum ∧ ((bals m4 es day).take i).sum ≤ 160000 := fun i hi => by
      have := sum_bound (b := 20000) (by omega) ((bals m4 es day).take i) (fun x hx => by
        obtain ⟨j, hj, rfl⟩ := List.getElem_of_mem hx
        rw [List.length_take, hlen] at hj
        rw [List.getElem_take]
        have := hgb j (by omega)
        rw [List.getD, List.getElem?_eq_getElem (by omega)] at this
        exact this)
      rw [List.length_take, hlen, Nat.min_eq_left hi] at this
      omega
    have hea : pst m4 cl es e = 0 → 1 ≤ e.a ∧ e.a ≤ 1000 := fun hp => (pst_iff.1 hp).2.1.2.2.2
    refine WP_loopI [6, 15, 16, 17, 53, 54, 55, 56, 57, 58, 59, 60, 61, 62, 63, 64, 65, 66, 67, 68, 69, 70, 71, 72, 73, 74, 75, 76, 77, 78, 79, 80, 81, 82, 83, 84, 85, 86, 87, 88, 89, 90, 91, 92, 93, 94, 95, 96, 97, 98, 99, 100, 101, 102, 103, 104, 105, 106, 107, 108] (fun g h' => h' = h4 ∧ ∃ i : Nat, i ≤ m4 ∧ g 16 = .int .i64 i ∧ g 15 = .int .i64 ((bals m4 es day).take i).sum) (fun g _ => match g 16 with | .int _ q => m4 - q.toNat | _ => 0) ⟨rfl, 0, by omega, rfl, rfl⟩ ?_
    rintro g h' ⟨rfl, i, hin, hg, hs⟩
    by_cases hi : i < m4
    · have hx := hgx i hi
      have hb := hgb i hi
      have hs1 := hsb i hin
      have hs2 := hsb (i + 1) hi
      have hs3 := sum_next (xs := bals m4 es day) (i := i) (by omega)
      have next : ∀ {K : Prop}, (i : Int) + 1 = ((i + 1 : Nat) : Int) := by intros; push_cast; rfl
      have c1 := I3'.cell (j := i) (by omega)
      have c2 := I4.cell (j := i) (by omega)
      by_cases hp : pst m4 cl es e = 0
      · have hea := hea hp
        by_cases hd : e.d ≤ day
        · by_cases ht : e.t = (i : Int)
          · have hf : ¬ (i : Int) = e.f := fun hh => (pst_iff.1 hp).2.2.1 (by rw [ht, hh])
            have hw : (bals m4 (pstX m4 cl es e) day).getD i 0 = (bals m4 es day).getD i 0 + e.a := by rw [hx, if_pos hp, amt, if_pos hd, if_pos ht, if_neg (fun hh => hf hh.symm)]; omega
            simp only [hg, hs, hp, hd, ht, hf, c1, c2, hw, he4, Int.toNat_natCast, decide_true, decide_false, Bool.not_true, coreS, Value.cells, Value.oneCell', Nat.reduceAdd, Nat.reduceSub, Nat.reduceMul, Nat.reduceLeDiff, Int.reduceEq, Nat.reduceEqDiff, E1Fs7]
            refine ⟨fun _ => ?_, fun hge => absurd (by omega) hge⟩
            refine ⟨by omega, I3'.isSome (by omega), by rw [inK_i64]; omega, ?_⟩
            repeat (refine And.intro (by first | omega | (rw [inK_i64]; omega) | rfl | assumption | (exact I3'.isSome (by omega)) | (exact I4.isSome (by omega))) ?_)
            refine roundK_mk (by kernel_rfl) ⟨rfl, i + 1, by omega, rfl, by rw [hs3]; rfl⟩ ?_
            show m4 - ((i : Int) + 1).toNat < m4 - (i : Int).toNat
            omega
          · have ht2 : ¬ (i : Int) = e.t := fun hh => ht hh.symm
            by_cases hf : e.f = (i : Int)
            · have hw : (bals m4 (pstX m4 cl es e) day).getD i 0 = (bals m4 es day).getD i 0 - e.a := by rw [hx, if_pos hp, amt, if_pos hd, if_neg ht, if_pos hf]; omega
              simp only [hg, hs, hp, hd, ht2, hf, c1, c2, hw, he4, Int.toNat_natCast, decide_true, decide_false, Bool.not_true, coreS, Value.cells, Value.oneCell', Nat.reduceAdd, Nat.reduceSub, Nat.reduceMul, Nat.reduceLeDiff, Int.reduceEq, Nat.reduceEqDiff, E1Fs7]
              refine ⟨fun _ => ?_, fun hge => absurd (by omega) hge⟩
              refine ⟨by omega, I3'.isSome (by omega), by rw [inK_i64]; omega, ?_⟩
              repeat (refine And.intro (by first | omega | (rw [inK_i64]; omega) | rfl | assumption | (exact I3'.isSome (by omega)) | (exact I4.isSome (by omega))) ?_)
              refine roundK_mk (by kernel_rfl) ⟨rfl, i + 1, by omega, rfl, by rw [hs3]; rfl⟩ ?_
              show m4 - ((i : Int) + 1).toNat < m4 - (i : Int).toNat
              omega
            · have hf2 : ¬ (i : Int) = e.f := fun hh => hf hh.symm
              have hw : (bals m4 (pstX m4 cl es e) day).getD i 0 = (bals m4 es day).getD i 0 := by rw [hx, if_pos hp, amt, if_pos hd, if_neg ht, if_neg hf]; omega
              simp only [hg, hs, hp, hd, ht2, hf2, c1, c2, hw, he4, Int.toNat_natCast, decide_true, decide_false, Bool.not_true, coreS, Value.cells, Value.oneCell', Nat.reduceAdd, Nat.reduceSub, Nat.reduceMul, Nat.reduceLeDiff, Int.reduceEq, Nat.reduceEqDiff, E1Fs7]
              refine ⟨fun _ => ?_, fun hge => absurd (by omega) hge⟩
              refine ⟨by omega, I3'.isSome (by omega), by rw [inK_i64]; omega, ?_⟩
              repeat (refine And.intro (by first | omega | (rw [inK_i64]; omega) | rfl | assumption | (exact I3'.isSome (by omega)) | (exact I4.isSome (by omega))) ?_)
              refine roundK_mk (by kernel_rfl) ⟨rfl, i + 1, by omega, rfl, by rw [hs3]; rfl⟩ ?_
              show m4 - ((i : Int) + 1).toNat < m4 - (i : Int).toNat
              omega
        · have hw : (bals m4 (pstX m4 cl es e) day).getD i 0 = (bals m4 es day).getD i 0 := by rw [hx, if_pos hp, amt, if_neg hd]; omega
          have ht : True := trivial
          have hf : True := trivial
          simp only [hg, hs, hp, hd, ht, hf, c1, c2, hw, he4, Int.toNat_natCast, decide_true, decide_false, Bool.not_true, coreS, Value.cells, Value.oneCell', Nat.reduceAdd, Nat.reduceSub, Nat.reduceMul, Nat.reduceLeDiff, Int.reduceEq, Nat.reduceEqDiff, E1Fs7]
          refine ⟨fun _ => ?_, fun hge => absurd (by omega) hge⟩
          refine ⟨by omega, I3'.isSome (by omega), by rw [inK_i64]; omega, ?_⟩
          repeat (refine And.intro (by first | omega | (rw [inK_i64]; omega) | rfl | assumption | (exact I3'.isSome (by omega)) | (exact I4.isSome (by omega))) ?_)
          refine roundK_mk (by kernel_rfl) ⟨rfl, i + 1, by omega, rfl, by rw [hs3]; rfl⟩ ?_
          show m4 - ((i : Int) + 1).toNat < m4 - (i : Int).toNat
          omega
      · have hw : (bals m4 (pstX m4 cl es e) day).getD i 0 = (bals m4 es day).getD i 0 := by rw [hx, if_neg hp]; omega
        have hd : True := trivial
        have ht : True := trivial
        have hf : True := trivial
        simp only [hg, hs, hp, hd, ht, hf, c1, c2, hw, he4, Int.toNat_natCast, decide_true, decide_false, Bool.not_true, coreS, Value.cells, Value.oneCell', Nat.reduceAdd, Nat.reduceSub, Nat.reduceMul, Nat.reduceLeDiff, Int.reduceEq, Nat.reduceEqDiff, E1Fs7]
        refine ⟨fun _ => ?_, fun hge => absurd (by omega) hge⟩
        refine ⟨by omega, I3'.isSome (by omega), by rw [inK_i64]; omega, ?_⟩
        repeat (refine And.intro (by first | omega | (rw [inK_i64]; omega) | rfl | assumption | (exact I3'.isSome (by omega)) | (exact I4.isSome (by omega))) ?_)
        refine roundK_mk (by kernel_rfl) ⟨rfl, i + 1, by omega, rfl, by rw [hs3]; rfl⟩ ?_
        show m4 - ((i : Int) + 1).toNat < m4 - (i : Int).toNat
        omega
    · obtain rfl : i = m4 := by omega
      have hsum : ((bals i es day).take i).sum = 0 := by
        rw [List.take_of_length_le (by omega)]
        exact bals_sum day hok
      simp only [hg, hs, hsum, decide_true, coreS, Value.cells, Value.oneCell', Nat.reduceAdd, Nat.reduceSub, Nat.reduceMul, Nat.reduceLeDiff, Int.reduceEq, Nat.reduceEqDiff, E1Fs7]
      refine ⟨fun hlt => absurd hlt (by omega), fun _ => ?_⟩
      refine CallsH.mono (works18 _) ?_
      rintro v h6 ⟨rfl, x6⟩
      simp only [coreS, Value.cells, Value.oneCell', Nat.reduceAdd, Nat.reduceSub, Nat.reduceMul, Nat.reduceLeDiff, Int.reduceEq, Nat.reduceEqDiff, E1Fs7]
      exact y4.trans x6
  · simp only [hc, decide_false, Bool.not_false, coreS, Value.cells, Value.oneCell', Nat.reduceAdd, Nat.reduceSub, Nat.reduceMul, Nat.reduceLeDiff, Int.reduceEq, Nat.reduceEqDiff, E1Fs7]
    refine CallsH.mono (works18 _) ?_
    rintro v h2 ⟨rfl, x2⟩
    simp only [coreS, Value.cells, Value.oneCell', Nat.reduceAdd, Nat.reduceSub, Nat.reduceMul, Nat.reduceLeDiff, Int.reduceEq, Nat.reduceEqDiff, E1Fs7]
    exact y1.trans x2
end Go.Proofs.YtepaekbjoombpaaGreatDoor
