/- Lists that grow while they are gone through: reached, and alternating. The plain law. No condition. -/
import Derived.Test.YtmgkeeefbfefgaaML5
import Derived.Test.YtmgkeeefbfefgaaML8
import Derived.Test.YtmgkeeefbfefgaaML10
namespace Go.Proofs.Ytmgkeeefbfefgaa
set_option linter.unusedSimpArgs false
set_option linter.unusedVariables false
set_option linter.defProp false
set_option linter.unusedSectionVars false
namespace MB
variable {sh mo c : Nat → Nat} {n M S w d q t : Nat} {out : List Nat}
theorem getD_app {l k : List Nat} {j : Nat} (h : j < l.length) : (l ++ k).getD j 0 = l.getD j 0 := by
  rw [List.getD_eq_getElem?_getD, List.getD_eq_getElem?_getD, List.getElem?_append_left h]
theorem getD_mem {l : List Nat} {j : Nat} (h : j < l.length) : l.getD j 0 ∈ l := by
  rw [List.getD_eq_getElem?_getD, List.getElem?_eq_getElem h]
  exact List.getElem_mem h
theorem mem_ix {l : List Nat} {x : Nat} (h : x ∈ l) : ∃ j, j < l.length ∧ l.getD j 0 = x := by
  obtain ⟨j, hj, e⟩ := List.getElem_of_mem h
  exact ⟨j, hj, by rw [List.getD_eq_getElem?_getD, List.getElem?_eq_getElem hj]; exact e⟩
/-- The wants that are reached, when the first q are done, and t for the next one. -/
structure Bf (sh mo c : Nat → Nat) (n w d : Nat) (out : List Nat) (q t : Nat) : Prop where
  nd : out.Nodup
  lt : ∀ x, x ∈ out → x < n
  ch : ∀ x, x ∈ out → Ch sh mo c n w d x
  has : w ∈ out
  done : ∀ j, j < q → ∀ k, k < n → clash sh mo (out.getD j 0) k = true → (c k = c w ∨ c k = d) → k ∈ out
  now : ∀ k, k < t → clash sh mo (out.getD q 0) k = true → (c k = c w ∨ c k = d) → k ∈ out
theorem Bf.start (hw : w < n) : Bf sh mo c n w d [w] 0 0 := ⟨by simp, fun x hx => by rw [List.mem_singleton.1 hx]; exact hw, fun x hx => by rw [List.mem_singleton.1 hx]; exact .base, by simp, fun j hj => by omega, fun k hk => by omega⟩
theorem Bf.skip (B : Bf sh mo c n w d out q t) (h : clash sh mo (out.getD q 0) t = true → (c t = c w ∨ c t = d) → t ∈ out) : Bf sh mo c n w d out q (t + 1) := ⟨B.nd, B.lt, B.ch, B.has, B.done, fun k hk h1 h2 => by
  by_cases e : k = t
  · subst e; exact h h1 h2
  · exact B.now k (by omega) h1 h2⟩
theorem Bf.add (B : Bf sh mo c n w d out q t) (hq : q < out.length) (ht : t < n) (h1 : clash sh mo (out.getD q 0) t = true) (h2 : c t = c w ∨ c t = d) (h3 : t ∉ out) : Bf sh mo c n w d (out ++ [t]) q (t + 1) := by
  refine ⟨List.nodup_append.2 ⟨B.nd, by simp, fun a ha b hb e => ?_⟩, fun x hx => ?_, fun x hx => ?_, List.mem_append_left _ B.has, fun j hj k hk h4 h5 => ?_, fun k hk h4 h5 => ?_⟩
  · rw [List.mem_singleton] at hb; exact h3 (by rw [← hb, ← e]; exact ha)
  · rcases List.mem_append.1 hx with h | h
    · exact B.lt x h
    · rw [List.mem_singleton.1 h]; exact ht
  · rcases List.mem_append.1 hx with h | h
    · exact B.ch x h
    · rw [List.mem_singleton.1 h]; exact .step _ t (B.ch _ (getD_mem hq)) ht h1 h2
  · rw [getD_app (by omega)] at h4
    exact List.mem_append_left _ (B.done j hj k hk h4 h5)
  · rw [getD_app hq] at h4
    by_cases e : k = t
    · subst e; simp
    · exact List.mem_append_left _ (B.now k (by omega) h4 h5)
theorem Bf.next (B : Bf sh mo c n w d out q n) : Bf sh mo c n w d out (q + 1) 0 := ⟨B.nd, B.lt, B.ch, B.has, fun j hj k hk h1 h2 => by
  by_cases e : j = q
  · subst e; exact B.now k hk h1 h2
  · exact B.done j (by omega) k hk h1 h2, fun k hk => by omega⟩
theorem Bf.fin (B : Bf sh mo c n w d out out.length 0) (x : Nat) : x ∈ out ↔ Ch sh mo c n w d x := by
  refine ⟨B.ch x, fun h => ?_⟩
  induction h with
  | base => exact B.has
  | step i k _ hk hcl hcol ih =>
    obtain ⟨j, hj, e⟩ := mem_ix ih
    exact B.done j hj k hk (by rw [e]; exact hcl) hcol
theorem Bf.size (B : Bf sh mo c n w d out q t) : out.length ≤ n := by
  have := nodup_le (m := List.range n) B.nd fun x hx => List.mem_range.2 (B.lt x hx)
  rwa [List.length_range] at this
/-- Sorted, it is the document's chain. -/
theorem Bf.sorted (hw : w < n) (B : Bf sh mo c n w d out out.length 0) {l : List Nat} (hl : l.Pairwise (· ≤ ·)) (hp : l.Perm out) : l = (List.range n).filter (cit sh mo c n w d n) := by
  have hn : l.Nodup := hp.nodup_iff.2 B.nd
  have hs : l.Pairwise (· < ·) := (hl.and hn).imp fun h => Nat.lt_of_le_of_ne h.1 h.2
  refine sorted_ext hs (List.Pairwise.filter _ List.pairwise_lt_range) fun x => ?_
  rw [hp.mem_iff, B.fin, List.mem_filter, List.mem_range]
  exact ⟨fun h => ⟨h.lt hw, (cit_iff hw (h.lt hw)).2 h⟩, fun h => (cit_iff hw h.1).1 h.2⟩
/-- Shops and moulds that are reached, when the first q shops are done, and t moulds for the next one. -/
structure Al (sh mo : Nat → Nat) (n M S : Nat) (st : St) (X Y : List Nat) (q t : Nat) : Prop where
  xn : X.Nodup
  yn : Y.Nodup
  xs : ∀ s, s ∈ X → s < S ∧ RS sh mo n M st s
  ys : ∀ m, m ∈ Y → ∃ i, i < n ∧ RS sh mo n M st (sh i) ∧ mo i = m
  free : ∀ s, s < S → served sh M st s = 0 → s ∈ X
  step : ∀ m i, m ∈ Y → st.by_ m = some i → sh i ∈ X
  done : ∀ j, j < q → ∀ i, i < n → sh i = X.getD j 0 → mo i ∈ Y
  now : ∀ i, i < n → sh i = X.getD q 0 → mo i < t → mo i ∈ Y
variable {st : St} {X Y : List Nat}
theorem Al.skip (A : Al sh mo n M S st X Y q t) (h : (∃ i, i < n ∧ sh i = X.getD q 0 ∧ mo i = t) → t ∈ Y) : Al sh mo n M S st X Y q (t + 1) := ⟨A.xn, A.yn, A.xs, A.ys, A.free, A.step, A.done, fun i hi h1 h2 => by
  by_cases e : mo i = t
  · rw [e]; exact h ⟨i, hi, h1, e⟩
  · exact A.now i hi h1 (by omega)⟩
/-- A mould more, and, if it has a want, the shop of that. -/
theorem Al.add (A : Al sh mo n M S st X Y q t) (I : Inv mo (List.range n) st) (hsh : ∀ i, i < n → sh i < S) (hq : q < X.length) {i : Nat} (hi : i < n) (h1 : sh i = X.getD q 0) (h2 : mo i = t) (h3 : t ∉ Y) {Z : List Nat} (hZ : Z = (match st.by_ t with | some w => if sh w ∈ X then [] else [sh w] | none => [])) : Al sh mo n M S st (X ++ Z) (Y ++ [t]) q (t + 1) := by
  have hr : RS sh mo n M st (sh i) := by rw [h1]; exact (A.xs _ (getD_mem hq)).2
  have hZ1 : ∀ s, s ∈ Z → s ∉ X ∧ s < S ∧ RS sh mo n M st s := fun s hs => by
    subst hZ
    cases hb : st.by_ t with
    | none => rw [hb] at hs; exact absurd hs List.not_mem_nil
    | some w =>
      rw [hb] at hs
      simp only at hs
      split at hs
      · exact absurd hs List.not_mem_nil
      · rename_i hx
        rw [List.mem_singleton.1 hs]
        exact ⟨hx, hsh w (List.mem_range.1 (I.ok _ _ hb).1), .step i w hr hi (by rw [h2]; exact hb)⟩
  have hZ2 : ∀ w, st.by_ t = some w → sh w ∈ X ++ Z := fun w hb => by
    subst hZ
    rw [hb]
    simp only
    split
    · rename_i h; exact List.mem_append_left _ h
    · simp
  have hZ3 : Z.Nodup := by
    subst hZ
    cases st.by_ t with
    | none => exact List.nodup_nil
    | some w => simp only; split <;> simp
  refine ⟨List.nodup_append.2 ⟨A.xn, hZ3, fun a ha b hb e => (hZ1 b hb).1 (e ▸ ha)⟩, List.nodup_append.2 ⟨A.yn, by simp, fun a ha b hb e => ?_⟩, fun s hs => ?_, fun m hm => ?_, fun s hs h0 => List.mem_append_left _ (A.free s hs h0), fun m w hm hb => ?_, fun j hj k hk h4 => ?_, fun k hk h4 h5 => ?_⟩
  · rw [List.mem_singleton] at hb; exact h3 (by rw [← hb, ← e]; exact ha)
  · rcases List.mem_append.1 hs with h | h
    · exact A.xs s h
    · exact (hZ1 s h).2
  · rcases List.mem_append.1 hm with h | h
    · exact A.ys m h
    · rw [List.mem_singleton.1 h]; exact ⟨i, hi, hr, h2⟩
  · rcases List.mem_append.1 hm with h | h
    · exact List.mem_append_left _ (A.step m w h hb)
    · rw [List.mem_singleton.1 h] at hb; exact hZ2 w hb
  · rw [getD_app (by omega)] at h4
    exact List.mem_append_left _ (A.done j hj k hk h4)
  · rw [getD_app hq] at h4
    by_cases e : mo k = t
    · rw [e]; simp
    · exact List.mem_append_left _ (A.now k hk h4 (by omega))
theorem Al.next (A : Al sh mo n M S st X Y q M) (hmo : ∀ i, i < n → mo i < M) : Al sh mo n M S st X Y (q + 1) 0 := ⟨A.xn, A.yn, A.xs, A.ys, A.free, A.step, fun j hj i hi h1 => by
  by_cases e : j = q
  · subst e; exact A.now i hi h1 (hmo i hi)
  · exact A.done j (by omega) i hi h1, fun i hi _ h => by omega⟩
theorem Al.size (A : Al sh mo n M S st X Y q t) : X.length ≤ S := by
  have := nodup_le (m := List.range S) A.xn fun x hx => List.mem_range.2 (A.xs x hx).1
  rwa [List.length_range] at this
theorem Al.fin (A : Al sh mo n M S st X Y X.length 0) (hsh : ∀ i, i < n → sh i < S) : Alt sh mo n M S st X Y := by
  have key : ∀ s, RS sh mo n M st s → s < S → s ∈ X := fun s hs => by
    induction hs with
    | base s h0 => exact fun h => A.free s h h0
    | step i w _ hi hb ih =>
      intro _
      obtain ⟨j, hj, e⟩ := mem_ix (ih (hsh i hi))
      exact A.step _ w (A.done j hj i hi e.symm) hb
  refine ⟨A.xn, A.yn, fun s => ⟨A.xs s, fun h => key s h.2 h.1⟩, fun m => ⟨A.ys m, ?_⟩⟩
  rintro ⟨i, hi, h1, rfl⟩
  obtain ⟨j, hj, e⟩ := mem_ix (key _ h1 (hsh i hi))
  exact A.done j hj i hi e.symm
end MB
end Go.Proofs.Ytmgkeeefbfefgaa
