/- What match returns is as great as can be; covers, and shops that are short. The plain law. No condition. -/
import Derived.Test.YtmgkeeefbfefgaaML2
namespace Go.Proofs.Ytmgkeeefbfefgaa
set_option linter.unusedSimpArgs false
set_option linter.unusedVariables false
set_option linter.defProp false
set_option linter.unusedSectionVars false
namespace MB
/-- The wants by mould when so many shops have been served. -/
def mby (sh mo : Nat → Nat) (sm : List Nat) (M : Nat) : Nat → Nat → Option Nat
  | 0 => fun _ => none
  | k + 1 => (seek sh mo sm (M + 1) k ⟨mby sh mo sm M k, fun _ => false⟩).2.by_
def mst (sh mo : Nat → Nat) (sm : List Nat) (M k : Nat) : St := ⟨mby sh mo sm M k, fun _ => false⟩
structure MInv (sh mo : Nat → Nat) (sm : List Nat) (M k : Nat) (t : St) : Prop where
  inv : Inv mo sm t
  one : ∀ s, served sh M t s ≤ 1
  zero : ∀ s, k ≤ s → served sh M t s = 0
  dead : ∃ Ds Dm, Closed sh mo sm t Ds Dm ∧ ∀ s, s < k → served sh M t s = 1 ∨ Ds s
theorem unseen_all (M : Nat) (b : Nat → Option Nat) : unseen M ⟨b, fun _ => false⟩ ≤ M := cnt_le _ _
theorem match_inv {sh mo : Nat → Nat} {sm : List Nat} {M : Nat} (hmo : ∀ i, i ∈ sm → mo i < M) : ∀ k, MInv sh mo sm M k (mst sh mo sm M k)
  | 0 => ⟨⟨fun m i h => by cases h⟩, fun s => by
      have : served sh M (mst sh mo sm M 0) s = 0 := by
        unfold served
        induction M with
        | zero => rfl
        | succ n ih =>
          rw [cnt_succ]
          have e : cnt (isOf sh (mst sh mo sm (n + 1) 0) s) n = cnt (fun _ => false) n := cnt_congr fun i _ => rfl
          have e2 : ∀ n, cnt (fun _ => false) n = 0 := fun n => by induction n with
            | zero => rfl
            | succ n ih => rw [cnt_succ, ih]; rfl
          rw [e, e2]; rfl
      omega, fun s _ => by
        unfold served
        have e : cnt (isOf sh (mst sh mo sm M 0) s) M = cnt (fun _ => false) M := cnt_congr fun i _ => rfl
        have e2 : ∀ n, cnt (fun _ => false) n = 0 := fun n => by induction n with
          | zero => rfl
          | succ n ih => rw [cnt_succ, ih]; rfl
        rw [e, e2], fun _ => False, fun _ => False, ⟨fun m h => h.elim, fun i _ h => h.elim⟩, fun s hs => by omega⟩
  | k + 1 => by
    have I := match_inv (sh := sh) hmo k
    have P := seek_post (sh := sh) hmo (M + 1) k (mst sh mo sm M k) I.inv (by have := unseen_all M (mby sh mo sm M k); exact Nat.lt_succ_of_le this)
    obtain ⟨r, hr⟩ : ∃ r, (seek sh mo sm (M + 1) k (mst sh mo sm M k)).1 = r := ⟨_, rfl⟩
    obtain ⟨t', ht⟩ : ∃ r, (seek sh mo sm (M + 1) k (mst sh mo sm M k)).2 = r := ⟨_, rfl⟩
    have hm : mst sh mo sm M (k + 1) = ⟨t'.by_, fun _ => false⟩ := by rw [← ht]; rfl
    rw [hr, ht] at P
    obtain ⟨Ds, Dm, hc, hd⟩ := I.dead
    rw [hm]
    cases r with
    | true =>
      obtain ⟨p1, p2, p3⟩ := P.yes rfl
      obtain ⟨z1, z2⟩ := p3 Ds Dm hc
      have e : ∀ s, served sh M ⟨t'.by_, fun _ => false⟩ s = served sh M (mst sh mo sm M k) s + if s = k then 1 else 0 := fun s => (served_by (t := t') (t' := ⟨t'.by_, fun _ => false⟩) rfl s).trans (p1 s)
      refine ⟨Inv.of_by (t := t') rfl P.inv, fun s => ?_, fun s hs => ?_, Ds, Dm, ⟨fun m h => ?_, hc.s⟩, fun s hs => ?_⟩
      · rw [e]
        split
        · rename_i h; rw [I.zero s (by omega)]; omega
        · have := I.one s; omega
      · rw [e, if_neg (by omega), I.zero s (by omega)]
      · show ∃ i, t'.by_ m = some i ∧ _
        rw [z2 m h]
        exact hc.m m h
      · rw [e]
        by_cases h : s = k
        · rw [if_pos h, I.zero s (by omega)]; exact .inl rfl
        · rw [if_neg h]; exact hd s (by omega)
    | false =>
      obtain ⟨p1, p2, p3⟩ := P.no rfl
      have e : ∀ s, served sh M ⟨t'.by_, fun _ => false⟩ s = served sh M (mst sh mo sm M k) s := fun s => served_by p1 s
      refine ⟨Inv.of_by (t := t') rfl P.inv, fun s => by rw [e]; exact I.one s, fun s hs => by rw [e]; exact I.zero s (by omega), fun s => Ds s ∨ s = k ∨ ∃ m i, t'.seen m = true ∧ t'.by_ m = some i ∧ sh i = s, fun m => Dm m ∨ t'.seen m = true, ⟨fun m h => ?_, fun i hi h => ?_⟩, fun s hs => ?_⟩
      · show ∃ i, t'.by_ m = some i ∧ _
        rcases h with h | h
        · obtain ⟨i, h1, h2⟩ := hc.m m h
          exact ⟨i, by rw [p1]; exact h1, .inl h2⟩
        · obtain ⟨i, h1, h2⟩ := p3 m h (fun h => Bool.noConfusion h)
          exact ⟨i, by rw [p1]; exact h1, .inr (.inr ⟨m, i, h, by rw [p1]; exact h1, rfl⟩)⟩
      · rcases h with h | h | ⟨m, j, h1, h2, h3⟩
        · exact .inl (hc.s i hi h)
        · exact .inr (p2 i hi h)
        · obtain ⟨j', h4, h5⟩ := p3 m h1 (fun h => Bool.noConfusion h)
          rw [p1] at h2
          rw [h2] at h4
          cases h4
          exact .inr (h5 i hi h3.symm)
      · rw [e]
        by_cases h : s = k
        · exact .inr (.inr (.inl h))
        · rcases hd s (by omega) with h | h
          · exact .inl h
          · exact .inr (.inl h)
/-- Wants of which no two clash. -/
def free (sh mo : Nat → Nat) (L : List Nat) : Prop := L.Pairwise fun i k => sh i ≠ sh k ∧ mo i ≠ mo k
/-- So many wants of some can be had on one day, and no more. -/
structure Mx (sh mo : Nat → Nat) (sm : List Nat) (n : Nat) : Prop where
  some_ : ∃ L, free sh mo L ∧ (∀ i, i ∈ L → i ∈ sm) ∧ L.length = n
  most : ∀ L, free sh mo L → (∀ i, i ∈ L → i ∈ sm) → L.length ≤ n
theorem Mx.uniq {sh mo : Nat → Nat} {sm : List Nat} {a b : Nat} (h1 : Mx sh mo sm a) (h2 : Mx sh mo sm b) : a = b := by
  obtain ⟨L, l1, l2, l3⟩ := h1.some_
  obtain ⟨K, k1, k2, k3⟩ := h2.some_
  have := h1.most K k1 k2
  have := h2.most L l1 l2
  omega
def size (M : Nat) (t : St) : Nat := cnt (fun m => (t.by_ m).isSome) M
theorem isOf_iff {sh : Nat → Nat} {t : St} {s m : Nat} : isOf sh t s m = true ↔ ∃ i, t.by_ m = some i ∧ sh i = s := by
  unfold isOf
  cases h : t.by_ m with
  | none => simp
  | some i => simp
theorem free_ne {sh mo : Nat → Nat} {L : List Nat} (h : free sh mo L) {i k : Nat} (hi : i ∈ L) (hk : k ∈ L) (hne : i ≠ k) : sh i ≠ sh k ∧ mo i ≠ mo k := by
  induction L with
  | nil => exact absurd hi List.not_mem_nil
  | cons x l ih =>
    obtain ⟨h1, h2⟩ := List.pairwise_cons.1 h
    rcases List.mem_cons.1 hi with e | hi2 <;> rcases List.mem_cons.1 hk with e2 | hk2
    · exact absurd (e.trans e2.symm) hne
    · subst e; exact h1 k hk2
    · subst e2; exact ⟨fun e => (h1 i hi2).1 e.symm, fun e => (h1 i hi2).2 e.symm⟩
    · exact ih h2 hi2 hk2
theorem nodup_map {f : Nat → Nat} {l : List Nat} (hn : l.Nodup) (h : ∀ i k, i ∈ l → k ∈ l → i ≠ k → f i ≠ f k) : (l.map f).Nodup := by
  rw [List.Nodup, List.pairwise_map]
  exact hn.imp_of_mem fun {i k} hi hk hne => h i k hi hk hne
theorem free_nodup {sh mo : Nat → Nat} {L : List Nat} (h : free sh mo L) : L.Nodup := h.imp fun {i k} hh e => hh.1 (by rw [e])
open Classical in
/-- A day's list is no longer than the wants by mould, if all shops have been served or are dead. -/
theorem match_most {sh mo : Nat → Nat} {sm : List Nat} {M S : Nat} {t : St} (hmo : ∀ i, i ∈ sm → mo i < M) (hsh : ∀ i, i ∈ sm → sh i < S) (I : MInv sh mo sm M S t) {L : List Nat} (hL : free sh mo L) (hs : ∀ i, i ∈ L → i ∈ sm) : L.length ≤ size M t := by
  obtain ⟨Ds, Dm, hc, hd⟩ := I.dead
  have h1 : ∀ s, ∃ m, s < S → ¬ Ds s → m < M ∧ isOf sh t s m = true := fun s => by
    by_cases h : s < S ∧ ¬ Ds s
    · obtain ⟨m, hm, h2⟩ := cnt_pos (P := isOf sh t s) (n := M) (by rcases hd s h.1 with h3 | h3
                                                                    · exact Nat.le_of_eq h3.symm
                                                                    · exact absurd h3 h.2)
      exact ⟨m, fun _ _ => ⟨hm, h2⟩⟩
    · exact ⟨0, fun h3 h4 => absurd ⟨h3, h4⟩ h⟩
  obtain ⟨g, hg⟩ := Classical.axiomOfChoice h1
  have hgD : ∀ s, s < S → ¬ Ds s → ¬ Dm (g s) := fun s h2 h3 h4 => by
    obtain ⟨i, h5, h6⟩ := isOf_iff.1 (hg s h2 h3).2
    obtain ⟨j, h7, h8⟩ := hc.m _ h4
    rw [h5] at h7
    cases h7
    exact h3 (h6 ▸ h8)
  have key := nodup_le (l := L.map fun i => if Ds (sh i) then mo i else g (sh i)) (m := (List.range M).filter fun m => (t.by_ m).isSome) (nodup_map (free_nodup hL) fun i k hi hk hne he => by
    have hf := free_ne hL hi hk hne
    have hi1 := hs i hi
    have hk1 := hs k hk
    by_cases d1 : Ds (sh i) <;> by_cases d2 : Ds (sh k)
    · rw [if_pos d1, if_pos d2] at he; exact hf.2 he
    · rw [if_pos d1, if_neg d2] at he
      exact hgD _ (hsh k hk1) d2 (he ▸ hc.s i hi1 d1)
    · rw [if_neg d1, if_pos d2] at he
      exact hgD _ (hsh i hi1) d1 (he ▸ hc.s k hk1 d2)
    · rw [if_neg d1, if_neg d2] at he
      obtain ⟨a, a1, a2⟩ := isOf_iff.1 (hg _ (hsh i hi1) d1).2
      obtain ⟨b, b1, b2⟩ := isOf_iff.1 (hg _ (hsh k hk1) d2).2
      rw [he, b1] at a1
      cases a1
      exact hf.1 (a2.symm.trans b2)) (fun x hx => by
    obtain ⟨i, hi, rfl⟩ := List.mem_map.1 hx
    have hi1 := hs i hi
    refine List.mem_filter.2 ?_
    by_cases d1 : Ds (sh i)
    · rw [if_pos d1]
      obtain ⟨j, h2, _⟩ := hc.m _ (hc.s i hi1 d1)
      exact ⟨List.mem_range.2 (hmo i hi1), by rw [h2]; rfl⟩
    · rw [if_neg d1]
      obtain ⟨h2, h3⟩ := hg _ (hsh i hi1) d1
      obtain ⟨a, a1, _⟩ := isOf_iff.1 h3
      exact ⟨List.mem_range.2 h2, by rw [a1]; rfl⟩)
  rw [List.length_map] at key
  exact key
/-- The list of the wants by mould. -/
def lst (t : St) : Nat → List Nat
  | 0 => []
  | m + 1 => lst t m ++ (match t.by_ m with | some i => [i] | none => [])
theorem lst_length (t : St) : ∀ m, (lst t m).length = size m t
  | 0 => rfl
  | m + 1 => by
    have h1 := lst_length t m
    unfold size at h1 ⊢
    rw [lst, List.length_append, h1, cnt_succ]
    cases t.by_ m <;> rfl
theorem lst_mem {t : St} {i : Nat} : ∀ {m : Nat}, i ∈ lst t m ↔ ∃ x, x < m ∧ t.by_ x = some i
  | 0 => by simp [lst]
  | m + 1 => by
    rw [lst, List.mem_append, lst_mem (m := m)]
    constructor
    · rintro (⟨x, h1, h2⟩ | h)
      · exact ⟨x, by omega, h2⟩
      · cases hb : t.by_ m with
        | none => rw [hb] at h; exact absurd h List.not_mem_nil
        | some j =>
          rw [hb] at h
          obtain rfl := List.mem_singleton.1 h
          exact ⟨m, by omega, hb⟩
    · rintro ⟨x, h1, h2⟩
      by_cases e : x = m
      · subst e; rw [h2]; exact .inr (List.mem_singleton.2 rfl)
      · exact .inl ⟨x, by omega, h2⟩
theorem lst_free {sh mo : Nat → Nat} {sm : List Nat} {M k : Nat} {t : St} (I : MInv sh mo sm M k t) : ∀ m, m ≤ M → free sh mo (lst t m)
  | 0, _ => List.Pairwise.nil
  | m + 1, h => by
    rw [lst]
    refine List.pairwise_append.2 ⟨lst_free I m (by omega), by cases t.by_ m <;> simp, fun i hi j hj => ?_⟩
    cases hb : t.by_ m with
    | none => rw [hb] at hj; exact absurd hj List.not_mem_nil
    | some q =>
      rw [hb] at hj
      obtain rfl := List.mem_singleton.1 hj
      obtain ⟨x, hx, h1⟩ := lst_mem.1 hi
      refine ⟨fun e => ?_, fun e => ?_⟩
      · have := cnt_one (P := isOf sh t (sh j)) (n := M) (i := x) (k := m) (I.one (sh j)) (by omega) (by omega) (isOf_iff.2 ⟨i, h1, e⟩) (isOf_iff.2 ⟨j, hb, rfl⟩)
        omega
      · have h2 := (I.inv.ok x i h1).2
        have h3 := (I.inv.ok m j hb).2
        omega
theorem match_mx {sh mo : Nat → Nat} {sm : List Nat} {M S : Nat} (hmo : ∀ i, i ∈ sm → mo i < M) (hsh : ∀ i, i ∈ sm → sh i < S) : Mx sh mo sm (size M (mst sh mo sm M S)) := by
  have I := match_inv (sh := sh) hmo S
  refine ⟨⟨lst (mst sh mo sm M S) M, lst_free I M (Nat.le_refl _), fun i hi => ?_, lst_length _ _⟩, fun L h1 h2 => match_most hmo hsh I h1 h2⟩
  obtain ⟨x, _, hx⟩ := lst_mem.1 hi
  exact (I.inv.ok x i hx).1
end MB
end Go.Proofs.Ytmgkeeefbfefgaa
