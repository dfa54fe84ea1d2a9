/- Chains and swapped days of given days: the plain law of MouldSwapped. -/
import Derived.Test.YtmgkeeefbfefgaaM20
namespace Go.Proofs.Ytmgkeeefbfefgaa
open Go Go.Proofs Go.Eng Go.Run Tab
set_option maxRecDepth 100000
set_option linter.unusedSimpArgs false
set_option linter.unusedVariables false
set_option linter.defProp false
set_option maxHeartbeats 1000000
theorem ch_congr {sh mo c c' : Nat → Nat} {n w d i : Nat} (hw : w < n) (h : ∀ i, i < n → c' i = c i) (H : MB.Ch sh mo c n w d i) : MB.Ch sh mo c' n w d i := by
  induction H with
  | base => exact .base
  | step i k _ hk hcl hcol ih => exact .step i k ih hk hcl (by rw [h k hk, h w hw]; exact hcol)
theorem swp_congr {sh mo c c' : Nat → Nat} {n w d i : Nat} (hw : w < n) (hi : i < n) (h : ∀ i, i < n → c' i = c i) : MB.swp sh mo c' n w d i = MB.swp sh mo c n w d i := by
  by_cases hc : MB.Ch sh mo c n w d i
  · rw [MB.swp_in hc, MB.swp_in (ch_congr hw h hc)]
    unfold MB.oth
    rw [h i hi, h w hw]
  · rw [MB.swp_out hc, MB.swp_out fun hh => hc (ch_congr hw (fun i hi => (h i hi).symm) hh), h i hi]
theorem right_congr {sh mo c c' : Nat → Nat} {n : Nat} (h : ∀ i, i < n → c' i = c i) (R : MB.right sh mo c n) : MB.right sh mo c' n :=
  fun i k hi hk hne e => R i k hi hk hne (by rw [← h i hi, ← h k hk]; exact e)
/-- Given days, for CheckDays. -/
theorem given_S {S M : Nat} {ws : List Wn} {G : List Nat} (V : Vb S M ws) (hl : G.length = ws.length) (hR : MB.rightL (shN ws) (moN ws) G) (h14 : ∀ x ∈ G, x < 14) : chkD S M ws (zsN G) = 0 ∧ difD S M ws (zsN G) = (MB.dif G : Nat) := by
  have h1 : chkD S M ws (zsN G) = 0 := by
    unfold chkD
    rw [if_neg (by simpa using V.chk), if_neg (by rw [zsN_length, hl]; simp), if_neg, if_pos]
    · unfold rightD; rw [natL_zsN]; exact hR
    · have : inB 0 13 (zsN G) = true := inB_iff.2 fun x hx => by
        obtain ⟨y, hy, rfl⟩ := List.mem_map.1 hx
        have := h14 y hy
        omega
      rw [this]; simp
  refine ⟨h1, ?_⟩
  unfold difD
  rw [if_pos h1, natL_zsN]
section sw
variable {ws : List Wn} {G : List Nat} {w d : Nat} {S M : Nat}
/-- The days of wants. -/
abbrev dG (G : List Nat) (i : Nat) : Nat := G.getD i 0
theorem natL_fun (G : List Nat) : (fun i => (natL (zsN G)).getD i 0) = dG G := by rw [natL_zsN]
theorem mem_chn (hw : w < ws.length) {i : Nat} : i ∈ chnL ws (zsN G) (w : Int) (d : Int) ↔ i < ws.length ∧ MB.Ch (shN ws) (moN ws) (dG G) ws.length w d i := by
  unfold chnL
  rw [Int.toNat_natCast, Int.toNat_natCast, natL_fun, List.mem_filter, List.mem_range]
  constructor
  · rintro ⟨h1, h2⟩; exact ⟨h1, (MB.cit_iff hw h1).1 h2⟩
  · rintro ⟨h1, h2⟩; exact ⟨h1, (MB.cit_iff hw h1).2 h2⟩
theorem zsN_at {l : List Nat} {i : Nat} : (zsN l).getD i 0 = ((l.getD i 0 : Nat) : Int) := by
  simp only [zsN, List.getD_eq_getElem?_getD, List.getElem?_map]
  cases l[i]? <;> rfl
theorem chnE_D (hD : chkD S M ws (zsN G) = 0) (hl : G.length = ws.length) (hw : w < ws.length) (hd : d < 14) : chnE S M ws (zsN G) (w : Int) (d : Int) = if dG G w = d then 16 else 0 := by
  unfold chnE
  rw [if_neg (by simpa using hD), if_neg (by rw [zsN_length]; omega), if_neg (by omega), Int.toNat_natCast, zsN_at]
  by_cases h : G.getD w 0 = d
  · rw [if_pos (show dG G w = d from h), if_pos (by rw [h])]
  · rw [if_neg (show ¬ dG G w = d from h), if_neg (fun e => h (by omega))]
theorem sw_at (hw : w < ws.length) {i : Nat} (hi : i < ws.length) : (swL ws (zsN G) (w : Int) (d : Int)).getD i 0 = MB.swp (shN ws) (moN ws) (dG G) ws.length w d i := by
  unfold swL
  rw [Int.toNat_natCast, Int.toNat_natCast, natL_fun, List.getD_eq_getElem?_getD, List.getElem?_map, List.getElem?_range hi]
  show swj (dG G) w d _ i = _
  unfold swj
  by_cases hc : MB.Ch (shN ws) (moN ws) (dG G) ws.length w d i
  · rw [if_pos (List.contains_iff_mem.2 ((mem_chn hw).2 ⟨hi, hc⟩)), MB.swp_in hc]
    rfl
  · rw [if_neg (fun h => hc ((mem_chn hw).1 (List.contains_iff_mem.1 h)).2), MB.swp_out hc]
theorem sw_right (hw : w < ws.length) (hl : G.length = ws.length) (hR : MB.rightL (shN ws) (moN ws) G) (hne : dG G w ≠ d) : MB.rightL (shN ws) (moN ws) (swL ws (zsN G) (w : Int) (d : Int)) := by
  unfold MB.rightL at hR ⊢
  rw [swL_length]
  rw [hl] at hR
  exact right_congr (fun i hi => sw_at hw hi) (MB.swp_right hR hne)
theorem sw_lt (hw : w < ws.length) (hl : G.length = ws.length) (h14 : ∀ x ∈ G, x < 14) (hd : d < 14) : ∀ x ∈ swL ws (zsN G) (w : Int) (d : Int), x < 14 := by
  intro x hx
  obtain ⟨i, hi, e⟩ := MB.mem_ix hx
  rw [swL_length] at hi
  rw [← e, sw_at hw hi]
  have g : ∀ i, i < ws.length → dG G i < 14 := fun i hi => h14 _ (MB.getD_mem (by omega))
  by_cases hc : MB.Ch (shN ws) (moN ws) (dG G) ws.length w d i
  · rw [MB.swp_in hc]
    unfold MB.oth
    split
    · exact g w hw
    · exact hd
  · rw [MB.swp_out hc]; exact g i hi
theorem chn_same (hw : w < ws.length) (hne : dG G w ≠ d) {k : Nat} (hk : k ∈ chnL ws (zsN G) (w : Int) (d : Int)) : chnL ws (zsN G) (k : Int) (MB.oth (dG G) w d (dG G k) : Nat) = chnL ws (zsN G) (w : Int) (d : Int) := by
  obtain ⟨h1, h2⟩ := (mem_chn hw).1 hk
  refine MB.sorted_ext (List.Pairwise.filter _ List.pairwise_lt_range) (List.Pairwise.filter _ List.pairwise_lt_range) fun x => ?_
  rw [mem_chn h1, mem_chn hw, MB.Ch.same hw h2 (MB.oth_pair hne h2.col) x]
theorem oth_ne (hne : dG G w ≠ d) {k : Nat} (h : dG G k = dG G w ∨ dG G k = d) : MB.oth (dG G) w d (dG G k) ≠ dG G k := by
  unfold MB.oth
  split
  · rename_i h1; rw [h1]; exact hne
  · rename_i h1; exact fun e => h1 e.symm
theorem sw_back (hw : w < ws.length) (hl : G.length = ws.length) (hne : dG G w ≠ d) {k : Nat} (hk : k ∈ chnL ws (zsN G) (w : Int) (d : Int)) : swL ws (zsN (swL ws (zsN G) (w : Int) (d : Int))) (k : Int) (dG G k : Nat) = G := by
  obtain ⟨h1, h2⟩ := (mem_chn hw).1 hk
  refine List.ext_getElem (by rw [swL_length, hl]) fun i hi1 hi2 => ?_
  have e1 : ∀ {l : List Nat} (h : i < l.length), l[i] = l.getD i 0 := fun h => by rw [List.getD_eq_getElem?_getD, List.getElem?_eq_getElem h]; rfl
  rw [swL_length] at hi1
  rw [e1, e1, sw_at h1 hi1, swp_congr h1 hi1 (fun i hi => sw_at hw hi), MB.swp_back hw hne h2]
theorem chn_len (hw : w < ws.length) : 1 ≤ (chnL ws (zsN G) (w : Int) (d : Int)).length ∧ (chnL ws (zsN G) (w : Int) (d : Int)).length ≤ ws.length := by
  refine ⟨?_, ?_⟩
  · have : w ∈ chnL ws (zsN G) (w : Int) (d : Int) := (mem_chn hw).2 ⟨hw, .base⟩
    exact List.length_pos_of_mem this
  · unfold chnL
    refine Nat.le_trans (List.length_filter_le _ _) (by simp)
theorem chn_sorted {want day : Int} : (chnL ws (zsN G) want day).Pairwise (· < ·) := List.Pairwise.filter _ List.pairwise_lt_range
end sw
/-- How many of a sorted list are below a number. -/
def below (l : List Nat) (k : Nat) : Nat := (l.filter fun x => decide (x < k)).length
theorem below_zero (l : List Nat) : below l 0 = 0 := by simp [below]
theorem below_step {l : List Nat} (hs : l.Pairwise (· < ·)) (k : Nat) : below l (k + 1) = below l k + if l.contains k then 1 else 0 := by
  induction l with
  | nil => rfl
  | cons x l ih =>
    obtain ⟨h1, h2⟩ := List.pairwise_cons.1 hs
    have ih := ih h2
    unfold below at ih ⊢
    by_cases hx : x = k
    · subst hx
      have hn : l.contains x = false := by
        rw [Bool.eq_false_iff, Ne, List.contains_iff_mem]
        intro h; have := h1 x h; omega
      rw [hn] at ih
      rw [List.filter_cons_of_pos (by simp), List.filter_cons_of_neg (by simp), List.length_cons, ih]
      simp
    · have hc : (x :: l).contains k = l.contains k := by
        rw [Bool.eq_iff_iff, List.contains_iff_mem, List.contains_iff_mem, List.mem_cons]
        exact ⟨fun h => h.resolve_left (fun e => hx e.symm), .inr⟩
      rw [hc]
      by_cases hlt : x < k
      · rw [List.filter_cons_of_pos (by simpa using (by omega : x < k + 1)), List.filter_cons_of_pos (by simpa using hlt), List.length_cons, List.length_cons, ih]
        omega
      · rw [List.filter_cons_of_neg (by simp; omega), List.filter_cons_of_neg (by simp; omega), ih]
theorem below_all {l : List Nat} {n : Nat} (h : ∀ x ∈ l, x < n) : below l n = l.length := by
  unfold below
  rw [List.filter_eq_self.2 fun x hx => by simpa using h x hx]
theorem below_in {l : List Nat} (hs : l.Pairwise (· < ·)) (k : Nat) : (decide (below l k < l.length) && decide (l.getD (below l k) 0 = k)) = l.contains k := by
  induction l with
  | nil => rfl
  | cons x l ih =>
    obtain ⟨h1, h2⟩ := List.pairwise_cons.1 hs
    have ih := ih h2
    unfold below at ih ⊢
    by_cases hlt : x < k
    · have hc : (x :: l).contains k = l.contains k := by
        rw [Bool.eq_iff_iff, List.contains_iff_mem, List.contains_iff_mem, List.mem_cons]
        exact ⟨fun h => h.resolve_left (by omega), .inr⟩
      rw [hc, ← ih, List.filter_cons_of_pos (by simpa using hlt), List.length_cons, List.length_cons]
      simp
    · have hn : l.filter (fun y => decide (y < k)) = [] := by
        rw [List.filter_eq_nil_iff]
        intro y hy
        have := h1 y hy
        simp; omega
      rw [List.filter_cons_of_neg (by simp; omega), hn]
      by_cases hx : x = k
      · subst hx; simp
      · have hc : (x :: l).contains k = false := by
          rw [Bool.eq_false_iff, Ne, List.contains_iff_mem, List.mem_cons]
          rintro (h | h)
          · exact hx h.symm
          · have := h1 k h; omega
        rw [hc]
        simp [hx]
end Go.Proofs.Ytmgkeeefbfefgaa
