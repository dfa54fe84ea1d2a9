/- Texts joined by pack.py: lemmas for YtmgkeeefbfefgaaLists. No condition. -/
import Derived.Test.YtmgkeeefbfefgaaPE5
set_option linter.unusedSimpArgs false
set_option linter.unusedVariables false
set_option linter.defProp false
section
namespace Go.Proofs.Ytmgkeeefbfefgaa
set_option linter.unusedSimpArgs false
set_option linter.unusedVariables false
set_option linter.defProp false
set_option linter.unusedSectionVars false
namespace MB
variable {sh mo : Nat → Nat} {n : Nat}
def ok1 (sh mo : Nat → Nat) (bg : List Nat) (i : Nat) : Bool := bg.all fun b => !clash sh mo b i
def lof (sh mo : Nat → Nat) (n : Nat) : Nat → List Nat → Nat → List Nat
  | 0, bg, _ => bg
  | f + 1, bg, fr => (List.range' fr (n - fr)).foldl (fun best i => if ok1 sh mo bg i then (if best.length < (lof sh mo n f (bg ++ [i]) (i + 1)).length then lof sh mo n f (bg ++ [i]) (i + 1) else best) else best) bg
def cand (sh mo : Nat → Nat) (n : Nat) (bg : List Nat) (fr : Nat) : List Nat := (List.range' fr (n - fr)).filter (ok1 sh mo bg)
theorem fold_filter (P : Nat → Bool) (v : Nat → List Nat) : ∀ (l : List Nat) (b : List Nat), l.foldl (fun best i => if P i then (if best.length < (v i).length then v i else best) else best) b = (l.filter P).foldl (fun best i => if best.length < (v i).length then v i else best) b
  | [], _ => rfl
  | x :: l, b => by
    rw [List.foldl_cons]
    cases h : P x with
    | true => rw [List.filter_cons_of_pos h, List.foldl_cons, if_pos rfl]; exact fold_filter P v l _
    | false => rw [List.filter_cons_of_neg (by rw [h]; decide)]; simp only [Bool.false_eq_true, if_false]; exact fold_filter P v l b
theorem fold_stay (v : Nat → List Nat) (N : Nat) : ∀ (l : List Nat) (b : List Nat), (∀ i, i ∈ l → (v i).length ≤ N) → b.length = N → l.foldl (fun best i => if best.length < (v i).length then v i else best) b = b
  | [], _, _, _ => rfl
  | x :: l, b, h, hb => by
    rw [List.foldl_cons, if_neg (by have := h x List.mem_cons_self; omega)]
    exact fold_stay v N l b (fun i hi => h i (List.mem_cons_of_mem _ hi)) hb
theorem fold_first (v : Nat → List Nat) (N : Nat) : ∀ (l : List Nat) (b : List Nat), (∀ i, i ∈ l → (v i).length ≤ N) → b.length < N → ∀ {q : Nat}, l.find? (fun i => (v i).length == N) = some q → l.foldl (fun best i => if best.length < (v i).length then v i else best) b = v q
  | [], _, _, _, q, hq => by cases hq
  | x :: l, b, h, hb, q, hq => by
    rw [List.foldl_cons]
    by_cases hx : (v x).length = N
    · rw [List.find?_cons_of_pos (by simpa using hx)] at hq
      cases hq
      rw [if_pos (by omega)]
      exact fold_stay v N l _ (fun i hi => h i (List.mem_cons_of_mem _ hi)) hx
    · rw [List.find?_cons_of_neg (by simpa using hx)] at hq
      have h1 := h x List.mem_cons_self
      refine fold_first v N l _ (fun i hi => h i (List.mem_cons_of_mem _ hi)) ?_ hq
      split <;> omega
theorem mem_cand {bg : List Nat} {fr k : Nat} : k ∈ cand sh mo n bg fr ↔ fr ≤ k ∧ k < n ∧ ok1 sh mo bg k = true := by
  rw [cand, List.mem_filter, List.mem_range'_1]
  constructor
  · rintro ⟨⟨h1, h2⟩, h3⟩; exact ⟨h1, by omega, h3⟩
  · rintro ⟨h1, h2, h3⟩; exact ⟨⟨h1, by omega⟩, h3⟩
theorem sorted_range' (s : Nat) : ∀ m, (List.range' s m).Pairwise (· < ·) := fun m => List.pairwise_lt_range'
theorem sorted_ext : ∀ {l k : List Nat}, l.Pairwise (· < ·) → k.Pairwise (· < ·) → (∀ x, x ∈ l ↔ x ∈ k) → l = k
  | [], [], _, _, _ => rfl
  | [], y :: k, _, _, h => absurd ((h y).2 List.mem_cons_self) List.not_mem_nil
  | x :: l, [], _, _, h => absurd ((h x).1 List.mem_cons_self) List.not_mem_nil
  | x :: l, y :: k, hl, hk, h => by
    obtain ⟨l1, l2⟩ := List.pairwise_cons.1 hl
    obtain ⟨k1, k2⟩ := List.pairwise_cons.1 hk
    have e : x = y := by
      rcases List.mem_cons.1 ((h x).1 List.mem_cons_self) with e | h1
      · exact e
      · rcases List.mem_cons.1 ((h y).2 List.mem_cons_self) with e | h2
        · exact e.symm
        · have := k1 x h1; have := l1 y h2; omega
    subst e
    rw [sorted_ext l2 k2 fun z => ?_]
    have hz := h z
    rw [List.mem_cons, List.mem_cons] at hz
    constructor
    · intro h1
      rcases hz.1 (.inr h1) with e | h2
      · have := l1 z h1; omega
      · exact h2
    · intro h1
      rcases hz.2 (.inr h1) with e | h2
      · have := k1 z h1; omega
      · exact h2
theorem sorted_cand {bg : List Nat} {fr : Nat} : (cand sh mo n bg fr).Pairwise (· < ·) := List.Pairwise.filter _ (sorted_range' _ _)
theorem cand_rest {bg : List Nat} {fr i : Nat} (hi : i ∈ cand sh mo n bg fr) : cand sh mo n (bg ++ [i]) (i + 1) = rest sh mo (cand sh mo n bg fr) i := by
  refine sorted_ext sorted_cand (sorted_rest sorted_cand) fun k => ?_
  rw [mem_cand, mem_rest, mem_cand]
  have h1 := (mem_cand.1 hi).1
  unfold ok1
  rw [List.all_append, Bool.and_eq_true]
  simp only [List.all_cons, List.all_nil, Bool.and_true, Bool.not_eq_true', clash_no]
  constructor
  · rintro ⟨a, b, c, d⟩; exact ⟨⟨by omega, b, c⟩, by omega, d⟩
  · rintro ⟨⟨a, b, c⟩, d, e⟩; exact ⟨by omega, b, c, e⟩
section
variable {mxv : List Nat → Nat} (hmx : ∀ l : List Nat, (∀ i, i ∈ l → i < n) → Mx sh mo l (mxv l))
include hmx
theorem lof_pk : ∀ (f : Nat) (bg : List Nat) (fr : Nat), n - fr < f → lof sh mo n f bg fr = bg ++ pk sh mo mxv (cand sh mo n bg fr)
  | 0, _, _, h => absurd h (by omega)
  | f + 1, bg, fr, h => by
    have hc : ∀ i, i ∈ cand sh mo n bg fr → i < n := fun i hi => (mem_cand.1 hi).2.1
    have hv : ∀ i, i ∈ cand sh mo n bg fr → lof sh mo n f (bg ++ [i]) (i + 1) = (bg ++ [i]) ++ pk sh mo mxv (rest sh mo (cand sh mo n bg fr) i) := fun i hi => by
      obtain ⟨h1, h2, _⟩ := mem_cand.1 hi
      rw [lof_pk f (bg ++ [i]) (i + 1) (by omega), cand_rest hi]
    have hlen : ∀ i, i ∈ cand sh mo n bg fr → (lof sh mo n f (bg ++ [i]) (i + 1)).length = bg.length + (1 + mxv (rest sh mo (cand sh mo n bg fr) i)) := fun i hi => by
      rw [hv i hi, List.length_append, List.length_append, pk_length hmx fun k hk => hc k (mem_rest.1 hk).1]
      simp only [List.length_cons, List.length_nil]
      omega
    have hle : ∀ i, i ∈ cand sh mo n bg fr → (lof sh mo n f (bg ++ [i]) (i + 1)).length ≤ bg.length + mxv (cand sh mo n bg fr) := fun i hi => by
      rw [hlen i hi]
      have := rest_le hmx hc hi
      omega
    rw [lof, fold_filter]
    show (cand sh mo n bg fr).foldl _ bg = _
    generalize hcd : cand sh mo n bg fr = cd at hc hv hlen hle
    by_cases h0 : mxv cd = 0
    · have := mx_none hmx hc h0
      subst this
      have e : pk sh mo mxv [] = [] := by unfold pk; rw [h0]; rfl
      rw [e, List.append_nil]
      rfl
    · obtain ⟨i, hi, hie⟩ := best_first hmx hc (Nat.pos_of_ne_zero h0)
      have hfe : ∀ l' : List Nat, (∀ k, k ∈ l' → k ∈ cd) → l'.find? (fun i => (lof sh mo n f (bg ++ [i]) (i + 1)).length == bg.length + mxv cd) = l'.find? (fun i => 1 + mxv (rest sh mo cd i) == mxv cd) := fun l' => by
        induction l' with
        | nil => intro _; rfl
        | cons x l' ih =>
          intro hs
          rw [List.find?_cons, List.find?_cons, hlen x (hs x List.mem_cons_self), ih fun k hk => hs k (List.mem_cons_of_mem _ hk)]
          have : (bg.length + (1 + mxv (rest sh mo cd x)) == bg.length + mxv cd) = (1 + mxv (rest sh mo cd x) == mxv cd) := by
            rw [Bool.eq_iff_iff, beq_iff_eq, beq_iff_eq]; omega
          rw [this]
      cases hq : cd.find? (fun i => 1 + mxv (rest sh mo cd i) == mxv cd) with
      | none =>
        rw [List.find?_eq_none] at hq
        exact absurd (hq i hi) (by simp [hie])
      | some q =>
        have hq2 := List.mem_of_find?_eq_some hq
        rw [fold_first (fun i => lof sh mo n f (bg ++ [i]) (i + 1)) (bg.length + mxv cd) cd bg hle (by omega) ((hfe cd fun k hk => hk).trans hq)]
        show lof sh mo n f (bg ++ [q]) (q + 1) = _
        rw [hv q hq2]
        have : pk sh mo mxv cd = q :: pk sh mo mxv (rest sh mo cd q) := by
          have h1 := List.find?_some hq
          simp only [beq_iff_eq] at h1
          unfold pk
          obtain ⟨z, hz⟩ : ∃ z, mxv cd = z + 1 := ⟨mxv cd - 1, by omega⟩
          rw [hz, pick, hq]
          show q :: pick sh mo mxv z _ = q :: _
          rw [show mxv (rest sh mo cd q) = z by omega]
        rw [this, List.append_assoc]
        rfl
theorem list_same : lof sh mo n (n + 1) [] 0 = (lgo sh mo mxv n n).1 := by
  rw [lof_pk hmx (n + 1) [] 0 (by omega), lgo_pk hmx, List.nil_append]
  congr 1
  refine sorted_ext sorted_cand List.pairwise_lt_range fun k => ?_
  rw [mem_cand, List.mem_range]
  exact ⟨fun h => h.2.1, fun h => ⟨Nat.zero_le _, h, rfl⟩⟩
end
end MB
end Go.Proofs.Ytmgkeeefbfefgaa
end
section
namespace Go.Proofs.Ytmgkeeefbfefgaa
set_option linter.unusedSimpArgs false
set_option linter.unusedVariables false
set_option linter.defProp false
set_option linter.unusedSectionVars false
namespace MB
variable {sh mo c : Nat → Nat} {n w d : Nat}
inductive Ch (sh mo c : Nat → Nat) (n w d : Nat) : Nat → Prop
  | base : Ch sh mo c n w d w
  | step (i k : Nat) : Ch sh mo c n w d i → k < n → clash sh mo i k = true → (c k = c w ∨ c k = d) → Ch sh mo c n w d k
theorem Ch.col {i : Nat} (h : Ch sh mo c n w d i) : c i = c w ∨ c i = d := by
  cases h with
  | base => exact .inl rfl
  | step _ _ _ _ _ h => exact h
theorem Ch.lt {i : Nat} (hw : w < n) (h : Ch sh mo c n w d i) : i < n := by
  cases h with
  | base => exact hw
  | step _ _ _ h _ _ => exact h
def oth (c : Nat → Nat) (w d x : Nat) : Nat := if x = d then c w else d
open Classical in
/-- The days when the chain is swapped. -/
theorem Ch.trans {i : Nat} {k e : Nat} (hk : Ch sh mo c n w d k) (hc : ∀ x, x = c k ∨ x = e → x = c w ∨ x = d) (h : Ch sh mo c n k e i) : Ch sh mo c n w d i := by
  induction h with
  | base => exact hk
  | step i j _ hj hcl hcol ih => exact .step i j ih hj hcl (hc _ hcol)
theorem Ch.back {i k e : Nat} (hw : w < n) (h : Ch sh mo c n w d i) (hc : ∀ x, x = c w ∨ x = d → x = c k ∨ x = e) (hi : Ch sh mo c n k e i) : Ch sh mo c n k e w := by
  induction h with
  | base => exact hi
  | step i j h1 hj hcl hcol ih =>
    refine ih (.step j i hi (h1.lt hw) (by rw [clash_comm]; exact hcl) (hc _ h1.col))
theorem Ch.same {k e : Nat} (hw : w < n) (hk : Ch sh mo c n w d k) (hc : ∀ x, (x = c k ∨ x = e) ↔ (x = c w ∨ x = d)) (i : Nat) : Ch sh mo c n k e i ↔ Ch sh mo c n w d i :=
  ⟨fun h => hk.trans (fun x => (hc x).1) h, fun h => Ch.trans (Ch.back hw hk (fun x => (hc x).2) .base) (fun x => (hc x).2) h⟩
def cst (sh mo c : Nat → Nat) (n w d : Nat) (S : Nat → Bool) (i : Nat) : Nat → Bool := fun x => if x = i then S i || (List.range n).any (fun k => S k && !(i == k) && clash sh mo i k && (c i == c w || c i == d)) else S x
def cps (sh mo c : Nat → Nat) (n w d : Nat) (S : Nat → Bool) : Nat → Nat → Bool
  | 0 => S
  | i + 1 => cst sh mo c n w d (cps sh mo c n w d S i) i
def cit (sh mo c : Nat → Nat) (n w d : Nat) : Nat → Nat → Bool
  | 0 => fun x => x == w
  | r + 1 => cps sh mo c n w d (cit sh mo c n w d r) n
end MB
end Go.Proofs.Ytmgkeeefbfefgaa
end
section
namespace Go.Proofs.Ytmgkeeefbfefgaa
set_option linter.unusedSimpArgs false
set_option linter.unusedVariables false
set_option linter.defProp false
set_option linter.unusedSectionVars false
namespace MB
variable {sh mo c : Nat → Nat} {n M S w d q t : Nat} {out : List Nat}
theorem getD_app {l k : List Nat} {j : Nat} (h : j < l.length) : (l ++ k).getD j 0 = l.getD j 0 := by
  rw [List.getD_eq_getElem?_getD, List.getD_eq_getElem?_getD, List.getElem?_append_left h]
theorem getD_mem {l : List Nat} {j : Nat} (h : j < l.length) : l.getD j 0 ∈ l := by
  rw [List.getD_eq_getElem?_getD, List.getElem?_eq_getElem h]
  exact List.getElem_mem h
theorem mem_ix {l : List Nat} {x : Nat} (h : x ∈ l) : ∃ j, j < l.length ∧ l.getD j 0 = x := by
  obtain ⟨j, hj, e⟩ := List.getElem_of_mem h
  exact ⟨j, hj, by rw [List.getD_eq_getElem?_getD, List.getElem?_eq_getElem hj]; exact e⟩
structure Bf (sh mo c : Nat → Nat) (n w d : Nat) (out : List Nat) (q t : Nat) : Prop where
  nd : out.Nodup
  lt : ∀ x, x ∈ out → x < n
  ch : ∀ x, x ∈ out → Ch sh mo c n w d x
  has : w ∈ out
  done : ∀ j, j < q → ∀ k, k < n → clash sh mo (out.getD j 0) k = true → (c k = c w ∨ c k = d) → k ∈ out
  now : ∀ k, k < t → clash sh mo (out.getD q 0) k = true → (c k = c w ∨ c k = d) → k ∈ out
theorem Bf.start (hw : w < n) : Bf sh mo c n w d [w] 0 0 := ⟨by simp, fun x hx => by rw [List.mem_singleton.1 hx]; exact hw, fun x hx => by rw [List.mem_singleton.1 hx]; exact .base, by simp, fun j hj => by omega, fun k hk => by omega⟩
theorem Bf.skip (B : Bf sh mo c n w d out q t) (h : clash sh mo (out.getD q 0) t = true → (c t = c w ∨ c t = d) → t ∈ out) : Bf sh mo c n w d out q (t + 1) := ⟨B.nd, B.lt, B.ch, B.has, B.done, fun k hk h1 h2 => by
  by_cases e : k = t
  · subst e; exact h h1 h2
  · exact B.now k (by omega) h1 h2⟩
theorem Bf.add (B : Bf sh mo c n w d out q t) (hq : q < out.length) (ht : t < n) (h1 : clash sh mo (out.getD q 0) t = true) (h2 : c t = c w ∨ c t = d) (h3 : t ∉ out) : Bf sh mo c n w d (out ++ [t]) q (t + 1) := by
  refine ⟨List.nodup_append.2 ⟨B.nd, by simp, fun a ha b hb e => ?_⟩, fun x hx => ?_, fun x hx => ?_, List.mem_append_left _ B.has, fun j hj k hk h4 h5 => ?_, fun k hk h4 h5 => ?_⟩
  · rw [List.mem_singleton] at hb; exact h3 (by rw [← hb, ← e]; exact ha)
  · rcases List.mem_append.1 hx with h | h
    · exact B.lt x h
    · rw [List.mem_singleton.1 h]; exact ht
  · rcases List.mem_append.1 hx with h | h
    · exact B.ch x h
    · rw [List.mem_singleton.1 h]; exact .step _ t (B.ch _ (getD_mem hq)) ht h1 h2
  · rw [getD_app (by omega)] at h4
    exact List.mem_append_left _ (B.done j hj k hk h4 h5)
  · rw [getD_app hq] at h4
    by_cases e : k = t
    · subst e; simp
    · exact List.mem_append_left _ (B.now k (by omega) h4 h5)
theorem Bf.next (B : Bf sh mo c n w d out q n) : Bf sh mo c n w d out (q + 1) 0 := ⟨B.nd, B.lt, B.ch, B.has, fun j hj k hk h1 h2 => by
  by_cases e : j = q
  · subst e; exact B.now k hk h1 h2
  · exact B.done j (by omega) k hk h1 h2, fun k hk => by omega⟩
theorem Bf.fin (B : Bf sh mo c n w d out out.length 0) (x : Nat) : x ∈ out ↔ Ch sh mo c n w d x := by
  refine ⟨B.ch x, fun h => ?_⟩
  induction h with
  | base => exact B.has
  | step i k _ hk hcl hcol ih =>
    obtain ⟨j, hj, e⟩ := mem_ix ih
    exact B.done j hj k hk (by rw [e]; exact hcl) hcol
theorem Bf.size (B : Bf sh mo c n w d out q t) : out.length ≤ n := by
  have := nodup_le (m := List.range n) B.nd fun x hx => List.mem_range.2 (B.lt x hx)
  rwa [List.length_range] at this
structure Al (sh mo : Nat → Nat) (n M S : Nat) (st : St) (X Y : List Nat) (q t : Nat) : Prop where
  xn : X.Nodup
  yn : Y.Nodup
  xs : ∀ s, s ∈ X → s < S ∧ RS sh mo n M st s
  ys : ∀ m, m ∈ Y → ∃ i, i < n ∧ RS sh mo n M st (sh i) ∧ mo i = m
  free : ∀ s, s < S → served sh M st s = 0 → s ∈ X
  step : ∀ m i, m ∈ Y → st.by_ m = some i → sh i ∈ X
  done : ∀ j, j < q → ∀ i, i < n → sh i = X.getD j 0 → mo i ∈ Y
  now : ∀ i, i < n → sh i = X.getD q 0 → mo i < t → mo i ∈ Y
variable {st : St} {X Y : List Nat}
theorem Al.skip (A : Al sh mo n M S st X Y q t) (h : (∃ i, i < n ∧ sh i = X.getD q 0 ∧ mo i = t) → t ∈ Y) : Al sh mo n M S st X Y q (t + 1) := ⟨A.xn, A.yn, A.xs, A.ys, A.free, A.step, A.done, fun i hi h1 h2 => by
  by_cases e : mo i = t
  · rw [e]; exact h ⟨i, hi, h1, e⟩
  · exact A.now i hi h1 (by omega)⟩
theorem Al.add (A : Al sh mo n M S st X Y q t) (I : Inv mo (List.range n) st) (hsh : ∀ i, i < n → sh i < S) (hq : q < X.length) {i : Nat} (hi : i < n) (h1 : sh i = X.getD q 0) (h2 : mo i = t) (h3 : t ∉ Y) {Z : List Nat} (hZ : Z = (match st.by_ t with | some w => if sh w ∈ X then [] else [sh w] | none => [])) : Al sh mo n M S st (X ++ Z) (Y ++ [t]) q (t + 1) := by
  have hr : RS sh mo n M st (sh i) := by rw [h1]; exact (A.xs _ (getD_mem hq)).2
  have hZ1 : ∀ s, s ∈ Z → s ∉ X ∧ s < S ∧ RS sh mo n M st s := fun s hs => by
    subst hZ
    cases hb : st.by_ t with
    | none => rw [hb] at hs; exact absurd hs List.not_mem_nil
    | some w =>
      rw [hb] at hs
      simp only at hs
      split at hs
      · exact absurd hs List.not_mem_nil
      · rename_i hx
        rw [List.mem_singleton.1 hs]
        exact ⟨hx, hsh w (List.mem_range.1 (I.ok _ _ hb).1), .step i w hr hi (by rw [h2]; exact hb)⟩
  have hZ2 : ∀ w, st.by_ t = some w → sh w ∈ X ++ Z := fun w hb => by
    subst hZ
    rw [hb]
    simp only
    split
    · rename_i h; exact List.mem_append_left _ h
    · simp
  have hZ3 : Z.Nodup := by
    subst hZ
    cases st.by_ t with
    | none => exact List.nodup_nil
    | some w => simp only; split <;> simp
  refine ⟨List.nodup_append.2 ⟨A.xn, hZ3, fun a ha b hb e => (hZ1 b hb).1 (e ▸ ha)⟩, List.nodup_append.2 ⟨A.yn, by simp, fun a ha b hb e => ?_⟩, fun s hs => ?_, fun m hm => ?_, fun s hs h0 => List.mem_append_left _ (A.free s hs h0), fun m w hm hb => ?_, fun j hj k hk h4 => ?_, fun k hk h4 h5 => ?_⟩
  · rw [List.mem_singleton] at hb; exact h3 (by rw [← hb, ← e]; exact ha)
  · rcases List.mem_append.1 hs with h | h
    · exact A.xs s h
    · exact (hZ1 s h).2
  · rcases List.mem_append.1 hm with h | h
    · exact A.ys m h
    · rw [List.mem_singleton.1 h]; exact ⟨i, hi, hr, h2⟩
  · rcases List.mem_append.1 hm with h | h
    · exact List.mem_append_left _ (A.step m w h hb)
    · rw [List.mem_singleton.1 h] at hb; exact hZ2 w hb
  · rw [getD_app (by omega)] at h4
    exact List.mem_append_left _ (A.done j hj k hk h4)
  · rw [getD_app hq] at h4
    by_cases e : mo k = t
    · rw [e]; simp
    · exact List.mem_append_left _ (A.now k hk h4 (by omega))
theorem Al.next (A : Al sh mo n M S st X Y q M) (hmo : ∀ i, i < n → mo i < M) : Al sh mo n M S st X Y (q + 1) 0 := ⟨A.xn, A.yn, A.xs, A.ys, A.free, A.step, fun j hj i hi h1 => by
  by_cases e : j = q
  · subst e; exact A.now i hi h1 (hmo i hi)
  · exact A.done j (by omega) i hi h1, fun i hi _ h => by omega⟩
theorem Al.size (A : Al sh mo n M S st X Y q t) : X.length ≤ S := by
  have := nodup_le (m := List.range S) A.xn fun x hx => List.mem_range.2 (A.xs x hx).1
  rwa [List.length_range] at this
theorem Al.fin (A : Al sh mo n M S st X Y X.length 0) (hsh : ∀ i, i < n → sh i < S) : Alt sh mo n M S st X Y := by
  have key : ∀ s, RS sh mo n M st s → s < S → s ∈ X := fun s hs => by
    induction hs with
    | base s h0 => exact fun h => A.free s h h0
    | step i w _ hi hb ih =>
      intro _
      obtain ⟨j, hj, e⟩ := mem_ix (ih (hsh i hi))
      exact A.step _ w (A.done j hj i hi e.symm) hb
  refine ⟨A.xn, A.yn, fun s => ⟨A.xs s, fun h => key s h.2 h.1⟩, fun m => ⟨A.ys m, ?_⟩⟩
  rintro ⟨i, hi, h1, rfl⟩
  obtain ⟨j, hj, e⟩ := mem_ix (key _ h1 (hsh i hi))
  exact A.done j hj i hi e.symm
end MB
end Go.Proofs.Ytmgkeeefbfefgaa
end
section
namespace Go.Proofs.Ytmgkeeefbfefgaa
open Go Go.Proofs Go.Eng Tab
set_option maxRecDepth 100000
set_option linter.unusedSimpArgs false
set_option linter.unusedVariables false
set_option linter.defProp false
set_option maxHeartbeats 1000000
theorem intsV_one {h : Eng.Heap} {b : Nat} {x : Int} {ct : TypeId} {fr : Nat × Nat} (hb : h[b]? = some (.cells #[.int .i64 x] ct fr)) : IntsV h (some ⟨b, 0, none⟩) 1 [x] := IntsV.block (xs := [x]) hb
theorem pn1 {h : Eng.Heap} {o o' : Obj} : ((h.push o).push o')[h.size + 1]? = some o' := by rw [Array.getElem?_push, if_pos (by simp)]
theorem pn0 {h : Eng.Heap} {o o' : Obj} : ((h.push o).push o')[h.size]? = some o := by rw [Array.getElem?_push, if_neg (by simp)]; exact push_new
def inB (lo hi : Int) (xs : List Int) : Bool := xs.all fun x => decide (lo ≤ x) && decide (x ≤ hi)
theorem inB_one {lo hi x : Int} : inB lo hi [x] = decide (lo ≤ x ∧ x ≤ hi) := by simp [inB]
theorem inB_iff {lo hi : Int} {xs : List Int} : inB lo hi xs = true ↔ ∀ x ∈ xs, lo ≤ x ∧ x ≤ hi := by simp [inB]
structure Wn where
  s : Int
  m : Int
  deriving DecidableEq
def wnV (w : Wn) : List Value := [.int .i64 w.s, .int .i64 w.m]
def wsV (ws : List Wn) : List Value := ws.flatMap wnV
theorem wsV_cons (w : Wn) (ws : List Wn) : wsV (w :: ws) = wnV w ++ wsV ws := rfl
theorem wsV_length (ws : List Wn) : (wsV ws).length = ws.length * 2 := by
  induction ws with
  | nil => rfl
  | cons e es ih => rw [wsV_cons, List.length_append, ih]; simp [wnV]; omega
theorem wsV_drop : ∀ (es : List Wn) (j : Nat), (wsV es).drop (j * 2) = wsV (es.drop j)
  | es, 0 => by simp
  | [], j + 1 => by simp [wsV]
  | e :: es, j + 1 => by
    have e1 : (j + 1) * 2 = 2 + j * 2 := by omega
    rw [wsV_cons, e1, ← List.drop_drop]
    have : (wnV e ++ wsV es).drop 2 = wsV es := by simp [wnV]
    rw [this, wsV_drop es j]; rfl
theorem wsV_take : ∀ (es : List Wn) (j : Nat), (wsV es).take (j * 2) = wsV (es.take j)
  | es, 0 => by simp [wsV]
  | [], j + 1 => by simp [wsV]
  | e :: es, j + 1 => by
    have e1 : (j + 1) * 2 = 2 + j * 2 := by omega
    rw [wsV_cons, e1, List.take_add]
    have h1 : (wnV e ++ wsV es).take 2 = wnV e := by simp [wnV]
    have h2 : (wnV e ++ wsV es).drop 2 = wsV es := by simp [wnV]
    rw [h1, h2, wsV_take es j]; rfl
theorem wsV_get (es : List Wn) (j : Nat) (hj : j < es.length) : ((wsV es).drop (j * 2)).take 2 = wnV es[j] := by
  have h1 : ((wsV es).drop (j * 2)).take (1 * 2) = wsV ((es.drop j).take 1) := by rw [wsV_drop, wsV_take]
  rw [Nat.one_mul] at h1
  rw [h1, List.drop_eq_getElem_cons hj]
  simp only [List.take_succ_cons, List.take_zero, wsV, List.flatMap_cons, List.flatMap_nil, List.append_nil]
def wAt (ws : List Wn) (i : Nat) : Wn := ws.getD i ⟨0, 0⟩
theorem wAt_eq {ws : List Wn} {i : Nat} (hi : i < ws.length) : wAt ws i = ws[i] := by simp [wAt, List.getD, List.getElem?_eq_getElem hi]
theorem wAt_mem {ws : List Wn} {i : Nat} (hi : i < ws.length) : wAt ws i ∈ ws := by rw [wAt_eq hi]; exact List.getElem_mem hi
theorem rowW {h : Eng.Heap} {a : Option Addr} {ws : List Wn} (hr : Row h a (wsV ws)) {i : Nat} (hi : i < ws.length) : cellsH h (eltP a (i * 2)) 2 = some [.int .i64 (wAt ws i).s, .int .i64 (wAt ws i).m] := by
  have := hr.cells (j := i * 2) (n := 2) (by rw [wsV_length]; omega) (by omega)
  rw [wsV_get ws i hi] at this
  rw [wAt_eq hi]
  exact this
theorem rowW_some {h : Eng.Heap} {a : Option Addr} {ws : List Wn} (hr : Row h a (wsV ws)) {i : Nat} (hi : i < ws.length) : a.isSome = true := hr.isSome (by rw [wsV_length]; omega)
theorem cellW0 {h : Eng.Heap} {a : Option Addr} {ws : List Wn} (hr : Row h a (wsV ws)) {i : Nat} (hi : i < ws.length) : cellH h (eltP a (i * 2)) = some (.int .i64 (wAt ws i).s) := by
  have h1 := hr.cell (j := i * 2) (by rw [wsV_length]; omega)
  have h2 := wsV_get ws i hi
  have h3 : (((wsV ws).drop (i * 2)).take 2)[0]? = some (.int .i64 ws[i].s) := by rw [h2]; rfl
  rw [List.getElem?_take, if_pos (by omega), List.getElem?_drop, List.getElem?_eq_getElem (by rw [wsV_length]; omega)] at h3
  rw [h1, wAt_eq hi]; exact h3
theorem cellW1 {h : Eng.Heap} {a : Option Addr} {ws : List Wn} (hr : Row h a (wsV ws)) {i : Nat} (hi : i < ws.length) : cellH h (eltP a (i * 2 + 1)) = some (.int .i64 (wAt ws i).m) := by
  have h1 := hr.cell (j := i * 2 + 1) (by rw [wsV_length]; omega)
  have h2 := wsV_get ws i hi
  have h3 : (((wsV ws).drop (i * 2)).take 2)[1]? = some (.int .i64 ws[i].m) := by rw [h2]; rfl
  rw [List.getElem?_take, if_pos (by omega), List.getElem?_drop, List.getElem?_eq_getElem (by rw [wsV_length]; omega)] at h3
  rw [h1, wAt_eq hi]; exact h3
theorem faR {h : Eng.Heap} {a : Option Addr} {ws : List Wn} (hr : Row h a (wsV ws)) {i : Nat} (hi : i < ws.length) (k off : Nat) (h' : Eng.Heap) (K : Value → Eng.Heap → Prop) : faW (.pointer (eltP a k)) (some off) h' K = K (.pointer (eltP a (k + off))) h' := by
  rcases hr with h1 | ⟨g, o, cur, ct, fr, h1, _⟩
  · have := wsV_length ws; rw [h1] at this; simp at this; omega
  · rw [h1, eltP_some, eltP_some, faW_at, Nat.add_assoc]
def okW (S M : Int) (w : Wn) : Prop := (0 ≤ w.s ∧ w.s < S) ∧ (0 ≤ w.m ∧ w.m < M)
instance (S M : Int) (w : Wn) : Decidable (okW S M w) := by unfold okW; infer_instance
def chk (S M : Int) (ws : List Wn) : Int :=
  if ¬ (1 ≤ S ∧ S ≤ 6) ∨ ¬ (1 ≤ M ∧ M ≤ 6) ∨ 14 < ws.length then 6
  else if ∀ w ∈ ws, okW S M w then 0 else 3
structure Vb (S M : Nat) (ws : List Wn) : Prop where
  s1 : 1 ≤ S
  s2 : S ≤ 6
  m1 : 1 ≤ M
  m2 : M ≤ 6
  n : ws.length ≤ 14
  ok : ∀ w ∈ ws, okW S M w
def shN (ws : List Wn) (i : Nat) : Nat := (wAt ws i).s.toNat
def moN (ws : List Wn) (i : Nat) : Nat := (wAt ws i).m.toNat
theorem chk_ok {S M : Int} {ws : List Wn} (H : chk S M ws = 0) : ∃ s m : Nat, S = s ∧ M = m ∧ Vb s m ws := by
  unfold chk at H
  split at H
  · omega
  split at H
  · rename_i h1 h2
    refine ⟨S.toNat, M.toNat, by omega, by omega, by omega, by omega, by omega, by omega, by omega, fun w hw => ?_⟩
    have := h2 w hw
    have e1 : ((S.toNat : Nat) : Int) = S := by omega
    have e2 : ((M.toNat : Nat) : Int) = M := by omega
    rw [e1, e2]; exact this
  · omega
theorem Vb.chk {S M : Nat} {ws : List Wn} (V : Vb S M ws) : chk S M ws = 0 := by
  have := V.s1; have := V.s2; have := V.m1; have := V.m2; have := V.n
  unfold Go.Proofs.Ytmgkeeefbfefgaa.chk
  rw [if_neg (by omega), if_pos V.ok]
theorem Vb.s {S M : Nat} {ws : List Wn} (V : Vb S M ws) {i : Nat} (hi : i < ws.length) : (wAt ws i).s = (shN ws i : Nat) ∧ shN ws i < S := by
  have h := (V.ok _ (wAt_mem hi)).1
  unfold shN
  omega
theorem Vb.m {S M : Nat} {ws : List Wn} (V : Vb S M ws) {i : Nat} (hi : i < ws.length) : (wAt ws i).m = (moN ws i : Nat) ∧ moN ws i < M := by
  have h := (V.ok _ (wAt_mem hi)).2
  unfold moN
  omega
end Go.Proofs.Ytmgkeeefbfefgaa
end
section
namespace Go.Proofs.Ytmgkeeefbfefgaa
open Go Go.Proofs Go.Eng Tab
set_option maxRecDepth 100000
set_option linter.unusedSimpArgs false
set_option linter.unusedVariables false
set_option maxHeartbeats 1000000
set_option linter.defProp false
def M1Fs15 := (And.intro (And.intro @agg22 @fo24_2) (And.intro @inf22 (And.intro @sz22 @Try.underlying22)))
def M1Fs24 := (And.intro (And.intro @agg3 @by3) (And.intro @inf3 (And.intro @sz3 @Try.underlying25)))
def M1Fs71 := (And.intro (And.intro @agg3 @by3) (And.intro @inf3 (And.intro @sz3 @Try.underlying25)))
def M1Fs84 := (And.intro @agg3 (And.intro @inf3 @sz3))
def M1Fs90 := (And.intro (And.intro @agg3 @by3) (And.intro @inf3 (And.intro @sz3 @Try.underlying25)))
def M1Fs91 := (And.intro (And.intro @agg3 @by3) (And.intro @inf3 (And.intro @sz3 @Try.underlying25)))
theorem within84 (n lo hi : Int) (p q : Nat) (h : Heap) (hp : h[p]? = some (.cells #[.int .i64 lo] 3)) (hq : h[q]? = some (.cells #[.int .i64 hi] 3)) :
    CallsH Try.prog 84 (#[] ++ #[.int .i64 n] ++ #[.pointer (some ⟨p, 0, none⟩), .pointer (some ⟨q, 0, none⟩)]) h (fun v h' => v = .bool (decide (n < lo) || decide (hi < n)) ∧ Ext h h') := by
  simp only [Array.append_empty, Array.empty_append, List.append_toArray, List.cons_append, List.nil_append]
  (refine CallsH_of_exec Try.func84 rfl bod84 ?_; simp only [Try.ntmps84, Try.results84, coreS, stK_some, splice, Value.cells, Value.oneCell', Nat.reduceAdd, Nat.reduceSub, Nat.reduceMul, Nat.reduceLeDiff, Int.reduceEq, Nat.reduceEqDiff, M1Fs84])
  simp only [hp, hq, coreS, stK_some, splice, Value.cells, Value.oneCell', Nat.reduceAdd, Nat.reduceSub, Nat.reduceMul, Nat.reduceLeDiff, Int.reduceEq, Nat.reduceEqDiff, M1Fs84]
  constructor
  · intro h1; simp [h1, Ext.refl]
  · intro h1; simp [h1, Ext.refl]
def idx (p : Int → Bool) (xs : List Int) : Int := match xs.findIdx? p with | some i => i | none => -1
theorem idx_none {p : Int → Bool} {xs : List Int} (H : ∀ j < xs.length, p (xs.getD j 0) = false) : idx p xs = -1 := by
  have : xs.findIdx? p = none := by
    rw [List.findIdx?_eq_none_iff]
    intro x hx
    obtain ⟨j, hj, rfl⟩ := List.getElem_of_mem hx
    have := H j hj
    simpa [List.getD, List.getElem?_eq_getElem hj] using this
  simp [idx, this]
theorem idx_some {p : Int → Bool} {xs : List Int} {i : Nat} (hi : i < xs.length) (H : ∀ j < i, p (xs.getD j 0) = false) (hp : p (xs.getD i 0) = true) : idx p xs = i := by
  have : xs.findIdx? p = some i := by
    rw [List.findIdx?_eq_some_iff_getElem]
    refine ⟨hi, by simpa [List.getD, List.getElem?_eq_getElem hi] using hp, fun j hj => ?_⟩
    have hj' : j < xs.length := by omega
    have := H j hj
    simpa [List.getD, List.getElem?_eq_getElem hj'] using this
  simp [idx, this]
theorem idx_any (p : Int → Bool) (xs : List Int) : decide (0 ≤ idx p xs) = xs.any p := by
  unfold idx
  cases hf : xs.findIdx? p with
  | none =>
    rw [List.findIdx?_eq_none_iff] at hf
    have : xs.any p = false := by rw [List.any_eq_false]; intro x hx; simp [hf x hx]
    simp [this]
  | some i =>
    rw [List.findIdx?_eq_some_iff_getElem] at hf
    obtain ⟨hi, hp, _⟩ := hf
    have : xs.any p = true := by rw [List.any_eq_true]; exact ⟨xs[i], List.getElem_mem hi, hp⟩
    simp [this]
theorem indexFunc90 (a : Option Addr) (n c : Nat) (xs : List Int) (q : FuncId) (caps : Array Value) (p : Int → Bool) (h : Heap) (hs : IntsV h a n xs) (hl : n ≤ 1000000)
    (hq : ∀ x ∈ xs, ∀ h', Ext h h' → CallsH Try.prog q (#[] ++ #[.int .i64 x] ++ caps) h' (fun v h'' => v = .bool (p x) ∧ Ext h' h'')) :
    CallsH Try.prog 90 #[.slice a n c, .func (.func q) #[] caps] h (fun v h' => v = .int .i64 (idx p xs) ∧ Ext h h') := by
  have hn := hs.len
  (refine CallsH_of_exec Try.func90 rfl bod90 ?_; simp only [Try.ntmps90, Try.results90, coreS, stK_some, splice, Value.cells, Value.oneCell', Nat.reduceAdd, Nat.reduceSub, Nat.reduceMul, Nat.reduceLeDiff, Int.reduceEq, Nat.reduceEqDiff, M1Fs90])
  refine WP_loopI [4, 5, 8, 9, 10, 11, 12, 13, 14, 15, 16, 17, 18] (fun g h' => ∃ i : Nat, i ≤ n ∧ g 8 = .int .i64 i ∧ (∀ j < i, p (xs.getD j 0) = false) ∧ Ext h h') (fun g _ => match g 8 with | .int _ m => n - m.toNat | _ => 0) ?_ ?_
  · exact ⟨0, by omega, rfl, fun j hj => by omega, Ext.refl h⟩
  · intro g h' hI
    obtain ⟨i, hin, hg8, hno, hx⟩ := hI
    by_cases hi : i < xs.length
    · simp only [hg8, (hs.ext hx).cell hi, coreS, Value.cells, Value.oneCell', Nat.reduceAdd, Nat.reduceSub, Nat.reduceMul, Nat.reduceLeDiff, Int.reduceEq, Nat.reduceEqDiff, M1Fs90]
      refine ⟨fun hlt => ⟨⟨by omega, by omega⟩, (hs.ext hx).isSome (by omega), ?_⟩, fun hge => absurd hge (by omega)⟩
      have hmem : xs.getD i 0 ∈ xs := by simp [List.getD, List.getElem?_eq_getElem hi]
      refine CallsH.mono (hq _ hmem _ hx) ?_
      rintro v h2 ⟨rfl, hx2⟩
      cases hp : p (xs.getD i 0)
      · simp only [coreS, Value.cells, Value.oneCell', Nat.reduceAdd, Nat.reduceSub, Nat.reduceMul, Nat.reduceLeDiff, Int.reduceEq, Nat.reduceEqDiff, M1Fs90]
        refine ⟨by rw [inK_i64]; omega, roundK_mk (by kernel_rfl) ⟨i + 1, by omega, rfl, ?_, hx.trans hx2⟩ ?_⟩
        · intro j hj
          by_cases hji : j = i
          · subst hji; exact hp
          · exact hno j (by omega)
        · show n - ((i : Int) + 1).toNat < n - (i : Int).toNat
          omega
      · simp only [coreS, Value.cells, Value.oneCell', Nat.reduceAdd, Nat.reduceSub, Nat.reduceMul, Nat.reduceLeDiff, Int.reduceEq, Nat.reduceEqDiff, M1Fs90]
        exact ⟨by rw [idx_some hi hno hp], hx.trans hx2⟩
    · simp only [hg8, coreS, Value.cells, Value.oneCell', Nat.reduceAdd, Nat.reduceSub, Nat.reduceMul, Nat.reduceLeDiff, Int.reduceEq, Nat.reduceEqDiff, M1Fs90]
      refine ⟨fun hlt => absurd hlt (by omega), fun hge => ?_⟩
      exact ⟨by rw [idx_none fun j hj => hno j (by omega)], hx⟩
theorem containsFunc75 (a : Option Addr) (n c : Nat) (xs : List Int) (q : FuncId) (caps : Array Value) (p : Int → Bool) (h : Heap) (hs : IntsV h a n xs) (hl : n ≤ 1000000)
    (hq : ∀ x ∈ xs, ∀ h', Ext h h' → CallsH Try.prog q (#[] ++ #[.int .i64 x] ++ caps) h' (fun v h'' => v = .bool (p x) ∧ Ext h' h'')) :
    CallsH Try.prog 75 #[.slice a n c, .func (.func q) #[] caps] h (fun v h' => v = .bool (xs.any p) ∧ Ext h h') := by
  (refine CallsH_of_exec Try.func75 rfl bod75 ?_; simp only [Try.ntmps75, Try.results75, coreS, stK_some, splice, Value.cells, Value.oneCell', Nat.reduceAdd, Nat.reduceSub, Nat.reduceMul, Nat.reduceLeDiff, Int.reduceEq, Nat.reduceEqDiff])
  refine CallsH.mono (indexFunc90 a n c xs q caps p h hs hl hq) ?_
  rintro v h2 ⟨rfl, hx⟩
  simp only [coreS, Value.cells, Value.oneCell', Nat.reduceAdd, Nat.reduceSub, Nat.reduceMul, Nat.reduceLeDiff, Int.reduceEq, Nat.reduceEqDiff]
  refine ⟨?_, hx⟩
  congr 1
  exact idx_any p xs
theorem within52 (lo hi : Int) (a : Option Addr) (n c : Nat) (xs : List Int) (h : Heap) (hs : IntsV h a n xs) (hl : n ≤ 1000000) :
    CallsH Try.prog 52 #[.int .i64 lo, .int .i64 hi, .slice a n c] h (fun v h' => v = .bool (inB lo hi xs) ∧ Ext h h') := by
  (refine CallsH_of_exec Try.func52 rfl bod52 ?_; simp only [Try.ntmps52, Try.results52, coreS, stK_some, splice, Value.cells, Value.oneCell', Nat.reduceAdd, Nat.reduceSub, Nat.reduceMul, Nat.reduceLeDiff, Int.reduceEq, Nat.reduceEqDiff])
  refine CallsH.mono (containsFunc75 a n c xs 84 _ (fun x => decide (x < lo) || decide (hi < x)) _ ((hs.push _).push _) hl ?_) ?_
  · intro x _ h' hx
    exact within84 x lo hi _ _ h' (hx.get (by simp only [push_get, push_size, Nat.left_eq_add, Nat.succ_ne_self, if_false, if_true])) (hx.get (by simp only [push_get, push_size, if_true]))
  · rintro v h2 ⟨rfl, hx⟩
    simp only [coreS, Value.cells, Value.oneCell', Nat.reduceAdd, Nat.reduceSub, Nat.reduceMul, Nat.reduceLeDiff, Int.reduceEq, Nat.reduceEqDiff]
    refine ⟨?_, hx.of_push.of_push⟩
    congr 1
    simp only [inB, List.not_any_eq_all_not]
    congr 1
    funext x
    by_cases h1 : x < lo <;> by_cases h2 : hi < x <;> simp [h1, h2, Int.not_lt.1, Int.not_le] <;> omega
theorem index91 (a : Option Addr) (n c : Nat) (xs : List Int) (x : Int) (h : Heap) (hs : IntsV h a n xs) (hl : n ≤ 1000000) :
    CallsH Try.prog 91 #[.slice a n c, .int .i64 x] h (fun v h' => v = .int .i64 (idx (fun y => decide (x = y)) xs) ∧ Ext h h') := by
  have hn := hs.len
  (refine CallsH_of_exec Try.func91 rfl bod91 ?_; simp only [Try.ntmps91, Try.results91, coreS, stK_some, splice, Value.cells, Value.oneCell', Nat.reduceAdd, Nat.reduceSub, Nat.reduceMul, Nat.reduceLeDiff, Int.reduceEq, Nat.reduceEqDiff, M1Fs91])
  refine WP_loopI [4, 5, 8, 9, 10, 11, 12, 13, 14, 15, 16, 17, 18] (fun g h' => h' = h ∧ ∃ i : Nat, i ≤ n ∧ g 8 = .int .i64 i ∧ (∀ j < i, decide (x = xs.getD j 0) = false)) (fun g _ => match g 8 with | .int _ m => n - m.toNat | _ => 0) ?_ ?_
  · exact ⟨rfl, 0, by omega, rfl, fun j hj => by omega⟩
  · rintro g h' ⟨rfl, i, hin, hg8, hno⟩
    by_cases hi : i < xs.length
    · simp only [hg8, hs.cell hi, coreS, Value.cells, Value.oneCell', Nat.reduceAdd, Nat.reduceSub, Nat.reduceMul, Nat.reduceLeDiff, Int.reduceEq, Nat.reduceEqDiff, M1Fs91]
      refine ⟨fun hlt => ⟨⟨by omega, by omega⟩, hs.isSome (by omega), ?_⟩, fun hge => absurd hge (by omega)⟩
      refine ⟨fun hp => ?_, fun hp => ?_⟩
      · exact ⟨by rw [idx_some hi hno (by simpa using hp)], Ext.refl _⟩
      · refine ⟨by rw [inK_i64]; omega, roundK_mk (by kernel_rfl) ⟨rfl, i + 1, by omega, rfl, ?_⟩ ?_⟩
        · intro j hj
          by_cases hji : j = i
          · subst hji; simpa using hp
          · exact hno j (by omega)
        · show n - ((i : Int) + 1).toNat < n - (i : Int).toNat
          omega
    · simp only [hg8, coreS, Value.cells, Value.oneCell', Nat.reduceAdd, Nat.reduceSub, Nat.reduceMul, Nat.reduceLeDiff, Int.reduceEq, Nat.reduceEqDiff, M1Fs91]
      refine ⟨fun hlt => absurd hlt (by omega), fun hge => ?_⟩
      exact ⟨by rw [idx_none fun j hj => hno j (by omega)], Ext.refl _⟩
theorem contains66 (a : Option Addr) (n c : Nat) (xs : List Int) (x : Int) (h : Heap) (hs : IntsV h a n xs) (hl : n ≤ 1000000) :
    CallsH Try.prog 66 #[.slice a n c, .int .i64 x] h (fun v h' => v = .bool (xs.contains x) ∧ Ext h h') := by
  (refine CallsH_of_exec Try.func66 rfl bod66 ?_; simp only [Try.ntmps66, Try.results66, coreS, stK_some, splice, Value.cells, Value.oneCell', Nat.reduceAdd, Nat.reduceSub, Nat.reduceMul, Nat.reduceLeDiff, Int.reduceEq, Nat.reduceEqDiff])
  refine CallsH.mono (index91 a n c xs x h hs hl) ?_
  rintro v h2 ⟨rfl, hx⟩
  simp only [coreS, Value.cells, Value.oneCell', Nat.reduceAdd, Nat.reduceSub, Nat.reduceMul, Nat.reduceLeDiff, Int.reduceEq, Nat.reduceEqDiff]
  refine ⟨?_, hx⟩
  congr 1
  rw [idx_any, List.contains_eq_any_beq]
  congr 1
theorem has71 (a : Option Addr) (n c : Nat) (xs : List Int) (x : Int) (h : Heap) (hs : IntsV h a n xs) (hl : n ≤ 1000000) :
    CallsH Try.prog 71 #[.slice a n c, .int .i64 x] h (fun v h' => v = .bool (xs.contains x) ∧ h' = h) := by
  have hn := hs.len
  (refine CallsH_of_exec Try.func71 rfl bod71 ?_; simp only [Try.ntmps71, Try.results71, coreS, stK_some, splice, Value.cells, Value.oneCell', Nat.reduceAdd, Nat.reduceSub, Nat.reduceMul, Nat.reduceLeDiff, Int.reduceEq, Nat.reduceEqDiff, M1Fs71])
  refine WP_loopI [4, 5, 6, 7, 8, 9, 10, 11, 12, 13, 14, 15, 16, 17] (fun g h' => h' = h ∧ ∃ i : Nat, i ≤ n ∧ g 5 = .int .i64 i ∧ (∀ j < i, xs.getD j 0 ≠ x)) (fun g _ => match g 5 with | .int _ m => n - m.toNat | _ => 0) ?_ ?_
  · exact ⟨rfl, 0, by omega, rfl, fun j hj => by omega⟩
  · rintro g h' ⟨rfl, i, hin, hg8, hno⟩
    by_cases hi : i < xs.length
    · simp only [hg8, hs.cell hi, coreS, Value.cells, Value.oneCell', Nat.reduceAdd, Nat.reduceSub, Nat.reduceMul, Nat.reduceLeDiff, Int.reduceEq, Nat.reduceEqDiff, M1Fs71]
      refine ⟨fun hlt => ⟨⟨by omega, by omega⟩, hs.isSome (by omega), ?_⟩, fun hge => absurd hge (by omega)⟩
      refine ⟨fun hp => ?_, fun hp => ?_⟩
      · have : xs.contains x = true := by
          rw [List.contains_iff_mem, ← hp]
          simp [List.getD, List.getElem?_eq_getElem hi]
        rw [this]
      · refine ⟨by rw [inK_i64]; omega, roundK_mk (by kernel_rfl) ⟨rfl, i + 1, by omega, rfl, ?_⟩ ?_⟩
        · intro j hj
          by_cases hji : j = i
          · subst hji; exact hp
          · exact hno j (by omega)
        · show n - ((i : Int) + 1).toNat < n - (i : Int).toNat
          omega
    · simp only [hg8, coreS, Value.cells, Value.oneCell', Nat.reduceAdd, Nat.reduceSub, Nat.reduceMul, Nat.reduceLeDiff, Int.reduceEq, Nat.reduceEqDiff, M1Fs71]
      refine ⟨fun hlt => absurd hlt (by omega), fun hge => ?_⟩
      have : xs.contains x = false := by
        rw [Bool.eq_false_iff, Ne, List.contains_iff_mem]
        intro hm
        obtain ⟨j, hj, rfl⟩ := List.getElem_of_mem hm
        exact hno j (by omega) (by simp [List.getD, List.getElem?_eq_getElem hj])
      rw [this]
theorem ints24 (a b : Option Addr) (n c m d : Nat) (xs ys : List Int) (h : Heap) (hs : IntsV h a n xs) (ht : IntsV h b m ys) (hl : n ≤ 1000000) :
    CallsH Try.prog 24 #[.slice a n c, .slice b m d] h (fun v h' => v = .bool (decide (xs = ys)) ∧ h' = h) := by
  have hn := hs.len
  have hm := ht.len
  (refine CallsH_of_exec Try.func24 rfl bod24 ?_; simp only [Try.ntmps24, Try.results24, coreS, stK_some, splice, Value.cells, Value.oneCell', Nat.reduceAdd, Nat.reduceSub, Nat.reduceMul, Nat.reduceLeDiff, Int.reduceEq, Nat.reduceEqDiff, M1Fs24])
  refine ⟨fun he => ?_, fun hne => ?_⟩
  rotate_left
  · have : xs ≠ ys := fun e => by rw [e] at hn; omega
    rw [decide_eq_false this]
  have hnm : xs.length = ys.length := by omega
  refine WP_loopI [4, 5, 11, 12, 13, 14, 15, 16, 17, 18, 19, 20, 21, 22, 23, 24, 25] (fun g h' => h' = h ∧ ∃ i : Nat, i ≤ n ∧ g 5 = .int .i64 i ∧ (∀ j < i, xs.getD j 0 = ys.getD j 0)) (fun g _ => match g 5 with | .int _ m => n - m.toNat | _ => 0) ?_ ?_
  · exact ⟨rfl, 0, by omega, rfl, fun j hj => by omega⟩
  · rintro g h' ⟨rfl, i, hin, hg8, hno⟩
    by_cases hi : i < xs.length
    · have hlt : (i : Int) < (n : Int) := by omega
      simp only [hg8, hlt, decide_true, coreS, Value.cells, Value.oneCell', Nat.reduceAdd, Nat.reduceSub, Nat.reduceMul, Nat.reduceLeDiff, Int.reduceEq, Nat.reduceEqDiff, M1Fs24]
      refine WP_draw (by kernel_rfl) sta_eq [(0, 0), (1, 0), (2, 0), (3, 0), (4, 0), (5, 0), (6, 0), (7, 0), (8, 0)] (by kernel_rfl) rfl (by kernel_rfl) ?_
      simp only [hg8, hs.cell hi, ht.cell (show i < ys.length by omega), hvK_eq, coreS, Value.cells, Value.oneCell', Nat.reduceAdd, Nat.reduceSub, Nat.reduceMul, Nat.reduceLeDiff, Int.reduceEq, Nat.reduceEqDiff, drawS, M1Fs24]
      refine ⟨⟨by omega, by omega⟩, hs.isSome (by omega), ⟨by omega, by omega⟩, ht.isSome (by omega), ?_⟩
      refine ⟨fun hp => ?_, fun hp => ?_⟩
      · refine ⟨by rw [inK_i64]; omega, roundK_mk (by kernel_rfl) ⟨rfl, i + 1, by omega, rfl, ?_⟩ ?_⟩
        · intro j hj
          by_cases hji : j = i
          · subst hji; exact hp
          · exact hno j (by omega)
        · show n - ((i : Int) + 1).toNat < n - (i : Int).toNat
          omega
      · have : xs ≠ ys := fun e => hp (by rw [e])
        rw [decide_eq_false this]
    · have hlt : ¬ ((i : Int) < (n : Int)) := by omega
      simp only [hg8, hlt, decide_false, coreS, Value.cells, Value.oneCell', Nat.reduceAdd, Nat.reduceSub, Nat.reduceMul, Nat.reduceLeDiff, Int.reduceEq, Nat.reduceEqDiff, M1Fs24]
      have : xs = ys := by
        refine List.ext_getElem hnm fun j h1 h2 => ?_
        have := hno j (by omega)
        simpa [List.getD, List.getElem?_eq_getElem h1, List.getElem?_eq_getElem h2] using this
      rw [decide_eq_true this]
theorem great15 (S M : Int) (a : Option Addr) (n c : Nat) (h : Eng.Heap) :
    CallsH Try.prog 15 #[.agg #[.int .i64 S, .int .i64 M, .slice a n c]] h (fun v h' => v = .bool (decide (20 < (n : Int))) ∧ Ext h h') := by
  (refine CallsH_of_exec Try.func15 rfl bod15 ?_; simp only [Try.ntmps15, Try.results15, coreS, stK_some, splice, Value.cells, Value.oneCell', Nat.reduceAdd, Nat.reduceSub, Nat.reduceMul, Nat.reduceLeDiff, Int.reduceEq, Nat.reduceEqDiff, M1Fs15])
  exact (Ext.refl h).push _
theorem long16 (a : Option Addr) (n c : Nat) (h : Eng.Heap) : CallsH Try.prog 16 #[.slice a n c] h (fun v h' => v = .bool (decide (24 < (n : Int))) ∧ h' = h) := by
  (refine CallsH_of_exec Try.func16 rfl bod16 ?_; simp only [Try.ntmps16, Try.results16, coreS, stK_some, splice, Value.cells, Value.oneCell', Nat.reduceAdd, Nat.reduceSub, Nat.reduceMul, Nat.reduceLeDiff, Int.reduceEq, Nat.reduceEqDiff, Try.underlying25])
end Go.Proofs.Ytmgkeeefbfefgaa
end
section
namespace Go.Proofs.Ytmgkeeefbfefgaa
open Go Go.Proofs Go.Eng Tab
set_option maxRecDepth 100000
set_option linter.unusedSimpArgs false
set_option linter.unusedVariables false
set_option maxHeartbeats 1000000
set_option linter.defProp false
def M2Fs22 := (And.intro (And.intro (And.intro @agg22 (And.intro @agg3 @by3)) (And.intro @fo24_0 (And.intro @fo24_1 @fo24_2))) (And.intro (And.intro @inf22 (And.intro @inf3 @sz22)) (And.intro (And.intro @sz3 @zero3) (And.intro @Try.underlying22 @Try.underlying25))))
def M2Fs49 := (And.intro (And.intro @agg24 (And.intro @fps99_0 @fps99_1)) (And.intro (And.intro @inf24 @okf99) (And.intro @sz24 @zero99)))
def M2Fs59 := (And.intro (And.intro (And.intro @agg3 @by3) (And.intro @fo24_0 (And.intro @fo24_1 @fo58_0))) (And.intro (And.intro @fo58_1 @inf3) (And.intro @sz3 (And.intro @zero3 @Try.underlying25))))
def M2Fs88 := (And.intro (And.intro @agg58 @by58) (And.intro @inf58 (And.intro @sz58 @Try.underlying22)))
def idxW (p : Wn → Bool) (es : List Wn) : Int := match es.findIdx? p with | some i => i | none => -1
theorem idxW_none {p : Wn → Bool} {es : List Wn} (H : ∀ e ∈ es, p e = false) : idxW p es = -1 := by
  have : es.findIdx? p = none := by rw [List.findIdx?_eq_none_iff]; exact fun x hx => by simp [H x hx]
  simp [idxW, this]
theorem idxW_some {p : Wn → Bool} {es : List Wn} {i : Nat} (hi : i < es.length) (H : ∀ j < i, p (wAt es j) = false) (hp : p (wAt es i) = true) : idxW p es = i := by
  have : es.findIdx? p = some i := by
    rw [List.findIdx?_eq_some_iff_getElem]
    refine ⟨hi, by rw [← wAt_eq hi]; exact hp, fun j hj => ?_⟩
    have hj' : j < es.length := by omega
    have := H j hj
    rw [wAt_eq hj'] at this
    simp [this]
  simp [idxW, this]
theorem idxW_any (p : Wn → Bool) (es : List Wn) : decide (0 ≤ idxW p es) = es.any p := by
  unfold idxW
  cases hf : es.findIdx? p with
  | none =>
    rw [List.findIdx?_eq_none_iff] at hf
    have : es.any p = false := by rw [List.any_eq_false]; intro x hx; simp [hf x hx]
    simp [this]
  | some i =>
    rw [List.findIdx?_eq_some_iff_getElem] at hf
    obtain ⟨hi, hp, _⟩ := hf
    have : es.any p = true := by rw [List.any_eq_true]; exact ⟨es[i], List.getElem_mem hi, hp⟩
    simp [this]
theorem mem_wAt {es : List Wn} {e : Wn} (h : e ∈ es) : ∃ i, i < es.length ∧ wAt es i = e := by
  obtain ⟨i, hi, rfl⟩ := List.getElem_of_mem h
  exact ⟨i, hi, wAt_eq hi⟩
theorem indexFunc88 (a : Option Addr) (n c : Nat) (es : List Wn) (q : FuncId) (caps : Array Value) (p : Wn → Bool) (h : Eng.Heap) (hr : Row h a (wsV es)) (hn : n = es.length) (hl : n ≤ 1000000)
    (hq : ∀ e ∈ es, ∀ h', Ext h h' → CallsH Try.prog q (#[] ++ #[.agg #[.int .i64 e.s, .int .i64 e.m]] ++ caps) h' (fun v h'' => v = .bool (p e) ∧ Ext h' h'')) :
    CallsH Try.prog 88 #[.slice a n c, .func (.func q) #[] caps] h (fun v h' => v = .int .i64 (idxW p es) ∧ Ext h h') := by
  (refine CallsH_of_exec Try.func88 rfl bod88 ?_; simp only [Try.ntmps88, Try.results88, coreS, stK_some, splice, Value.cells, Value.oneCell', Nat.reduceAdd, Nat.reduceSub, Nat.reduceMul, Nat.reduceLeDiff, Int.reduceEq, Nat.reduceEqDiff, M2Fs88])
  refine WP_loopI [4, 5, 8, 9, 10, 11, 12, 13, 14, 15, 16, 17, 18] (fun g h' => ∃ i : Nat, i ≤ n ∧ g 8 = .int .i64 i ∧ (∀ j < i, p (wAt es j) = false) ∧ Ext h h') (fun g _ => match g 8 with | .int _ m => n - m.toNat | _ => 0) ?_ ?_
  · exact ⟨0, by omega, rfl, by omega, Ext.refl h⟩
  · rintro g h' ⟨i, hin, hg8, hno, hx⟩
    by_cases hi : i < es.length
    · have hsm : a.isSome = true := rowW_some hr hi
      have hc1 := rowW (hr.ext hx) hi
      simp only [hg8, hc1, coreS, Value.cells, Value.oneCell', Nat.reduceAdd, Nat.reduceSub, Nat.reduceMul, Nat.reduceLeDiff, Int.reduceEq, Nat.reduceEqDiff, M2Fs88]
      refine ⟨fun hlt => ⟨⟨by omega, by omega⟩, hsm, ?_⟩, fun hge => absurd hge (by omega)⟩
      refine CallsH.mono (hq _ (wAt_mem hi) _ hx) ?_
      rintro v h2 ⟨rfl, hx2⟩
      cases hp : p (wAt es i)
      · simp only [coreS, Value.cells, Value.oneCell', Nat.reduceAdd, Nat.reduceSub, Nat.reduceMul, Nat.reduceLeDiff, Int.reduceEq, Nat.reduceEqDiff, M2Fs88]
        refine ⟨by rw [inK_i64]; omega, roundK_mk (by kernel_rfl) ⟨i + 1, by omega, rfl, fun j hj => ?_, hx.trans hx2⟩ ?_⟩
        · by_cases hji : j = i
          · subst hji; exact hp
          · exact hno j (by omega)
        · show n - ((i : Int) + 1).toNat < n - (i : Int).toNat
          omega
      · simp only [coreS, Value.cells, Value.oneCell', Nat.reduceAdd, Nat.reduceSub, Nat.reduceMul, Nat.reduceLeDiff, Int.reduceEq, Nat.reduceEqDiff, M2Fs88]
        exact ⟨by rw [idxW_some hi hno hp], hx.trans hx2⟩
    · simp only [hg8, coreS, Value.cells, Value.oneCell', Nat.reduceAdd, Nat.reduceSub, Nat.reduceMul, Nat.reduceLeDiff, Int.reduceEq, Nat.reduceEqDiff, M2Fs88]
      refine ⟨fun hlt => absurd hlt (by omega), fun hge => ?_⟩
      exact ⟨by rw [idxW_none fun e he => by obtain ⟨j, hj, rfl⟩ := mem_wAt he; exact hno j (by omega)], hx⟩
theorem containsFunc60 (a : Option Addr) (n c : Nat) (es : List Wn) (q : FuncId) (caps : Array Value) (p : Wn → Bool) (h : Eng.Heap) (hr : Row h a (wsV es)) (hn : n = es.length) (hl : n ≤ 1000000)
    (hq : ∀ e ∈ es, ∀ h', Ext h h' → CallsH Try.prog q (#[] ++ #[.agg #[.int .i64 e.s, .int .i64 e.m]] ++ caps) h' (fun v h'' => v = .bool (p e) ∧ Ext h' h'')) :
    CallsH Try.prog 60 #[.slice a n c, .func (.func q) #[] caps] h (fun v h' => v = .bool (es.any p) ∧ Ext h h') := by
  (refine CallsH_of_exec Try.func60 rfl bod60 ?_; simp only [Try.ntmps60, Try.results60, coreS, stK_some, splice, Value.cells, Value.oneCell', Nat.reduceAdd, Nat.reduceSub, Nat.reduceMul, Nat.reduceLeDiff, Int.reduceEq, Nat.reduceEqDiff])
  refine CallsH.mono (indexFunc88 a n c es q caps p h hr hn hl hq) ?_
  rintro v h2 ⟨rfl, hx⟩
  simp only [coreS, Value.cells, Value.oneCell', Nat.reduceAdd, Nat.reduceSub, Nat.reduceMul, Nat.reduceLeDiff, Int.reduceEq, Nat.reduceEqDiff]
  refine ⟨?_, hx⟩
  congr 1
  exact idxW_any p es
theorem stray59 (S M : Int) (sl : Value) (w : Wn) (b : Nat) (h : Eng.Heap) (hb : h[b]? = some (.cells #[.int .i64 S, .int .i64 M, sl] 24)) (hS : 1 ≤ S ∧ S ≤ 6) (hM : 1 ≤ M ∧ M ≤ 6) :
    CallsH Try.prog 59 (#[] ++ #[.agg #[.int .i64 w.s, .int .i64 w.m]] ++ #[.pointer (some ⟨b, 0, none⟩)]) h (fun v h' => v = .bool (!decide (okW S M w)) ∧ Ext h h') := by
  simp only [Array.append_empty, Array.empty_append, List.append_toArray, List.cons_append, List.nil_append]
  (refine CallsH_of_exec Try.func59 rfl bod59 ?_; simp only [Try.ntmps59, Try.results59, coreS, stK_some, splice, Value.cells, Value.oneCell', Nat.reduceAdd, Nat.reduceSub, Nat.reduceMul, Nat.reduceLeDiff, Int.reduceEq, Nat.reduceEqDiff, M2Fs59])
  have hne : ¬ (b = h.size) := by have := lt_of_get hb; omega
  simp only [hne, hb, if_false, splice, coreS, Value.cells, Value.oneCell', Nat.reduceAdd, Nat.reduceSub, Nat.reduceMul, Nat.reduceLeDiff, Int.reduceEq, Nat.reduceEqDiff, M2Fs59]
  refine ⟨by rw [inK_i64]; omega, ?_⟩
  refine CallsH.mono (within52 0 (S - 1) _ 1 1 [w.s] _ (intsV_one pn1) (by omega)) ?_
  rintro v h1 ⟨rfl, x1⟩
  have hb0 := x1.get pn0
  have hb1 := x1.of_push.of_push.get hb
  have y1 := x1.of_push.of_push
  by_cases hs : 0 ≤ w.s ∧ w.s ≤ S - 1
  · simp only [inB_one, hs, hb0, hb1, and_self, decide_true, Bool.not_true, splice, coreS, Value.cells, Value.oneCell', Nat.reduceAdd, Nat.reduceSub, Nat.reduceMul, Nat.reduceLeDiff, Int.reduceEq, Nat.reduceEqDiff, M2Fs59]
    refine ⟨by rw [inK_i64]; omega, ?_⟩
    refine CallsH.mono (within52 0 (M - 1) _ 1 1 [w.m] _ (intsV_one push_new) (by omega)) ?_
    rintro v h2 ⟨rfl, x2⟩
    have y2 := y1.trans x2.of_push
    simp only [inB_one, coreS, Value.cells, Value.oneCell', Nat.reduceAdd, Nat.reduceSub, Nat.reduceMul, Nat.reduceLeDiff, Int.reduceEq, Nat.reduceEqDiff, M2Fs59]
    refine ⟨?_, y2⟩
    congr 2
    rw [decide_eq_decide]
    unfold okW
    omega
  · have : ¬ okW S M w := by unfold okW; omega
    simp only [inB_one, hs, this, decide_false, Bool.not_false, coreS, Value.cells, Value.oneCell', Nat.reduceAdd, Nat.reduceSub, Nat.reduceMul, Nat.reduceLeDiff, Int.reduceEq, Nat.reduceEqDiff, M2Fs59]
    exact y1
theorem check22 (S M : Int) (a : Option Addr) (n c : Nat) (ws : List Wn) (h : Eng.Heap) (hr : Row h a (wsV ws)) (hn : n = ws.length) (hl : n ≤ 1000000) :
    CallsH Try.prog 22 #[.agg #[.int .i64 S, .int .i64 M, .slice a n c]] h (fun v h' => v = .int .i64 (chk S M ws) ∧ Ext h h') := by
  (refine CallsH_of_exec Try.func22 rfl bod22 ?_; simp only [Try.ntmps22, Try.results22, coreS, stK_some, splice, Value.cells, Value.oneCell', Nat.reduceAdd, Nat.reduceSub, Nat.reduceMul, Nat.reduceLeDiff, Int.reduceEq, Nat.reduceEqDiff, M2Fs22])
  refine CallsH.mono (within52 1 6 _ 1 1 [S] _ (intsV_one pn1) (by omega)) ?_
  rintro v h1 ⟨rfl, x1⟩
  have hb1 := x1.get pn0
  have y1 := x1.of_push.of_push
  by_cases hs : 1 ≤ S ∧ S ≤ 6
  · simp only [inB_one, hs, hb1, and_self, decide_true, Bool.not_true, splice, coreS, Value.cells, Value.oneCell', Nat.reduceAdd, Nat.reduceSub, Nat.reduceMul, Nat.reduceLeDiff, Int.reduceEq, Nat.reduceEqDiff, M2Fs22]
    refine CallsH.mono (within52 1 6 _ 1 1 [M] _ (intsV_one push_new) (by omega)) ?_
    rintro v h2 ⟨rfl, x2⟩
    have hb2 := x2.of_push.get hb1
    have y2 := y1.trans x2.of_push
    by_cases hm : 1 ≤ M ∧ M ≤ 6
    · by_cases hg : 14 < (n : Int)
      · have hc : chk S M ws = 6 := by unfold chk; rw [if_pos (.inr (.inr (by omega)))]
        simp only [inB_one, hm, hb2, hg, hc, and_self, decide_true, Bool.not_true, splice, coreS, Value.cells, Value.oneCell', Nat.reduceAdd, Nat.reduceSub, Nat.reduceMul, Nat.reduceLeDiff, Int.reduceEq, Nat.reduceEqDiff, M2Fs22]
        exact y2
      · simp only [inB_one, hm, hb2, hg, and_self, decide_true, decide_false, Bool.not_true, splice, coreS, Value.cells, Value.oneCell', Nat.reduceAdd, Nat.reduceSub, Nat.reduceMul, Nat.reduceLeDiff, Int.reduceEq, Nat.reduceEqDiff, M2Fs22]
        refine CallsH.mono (containsFunc60 a n c ws 59 _ (fun e => !decide (okW S M e)) h2 (hr.ext y2) hn hl fun e _ h' x' => stray59 S M _ e _ h' (x'.get hb2) hs hm) ?_
        rintro v h3 ⟨rfl, x3⟩
        have y3 := y2.trans x3
        by_cases hall : ∀ e ∈ ws, okW S M e
        · have hany : (ws.any fun e => !decide (okW S M e)) = false := by
            rw [List.any_eq_false]; intro e he; simp [hall e he]
          have hc : chk S M ws = 0 := by unfold chk; rw [if_neg (by omega), if_pos hall]
          simp only [hany, hc, coreS, Value.cells, Value.oneCell', Nat.reduceAdd, Nat.reduceSub, Nat.reduceMul, Nat.reduceLeDiff, Int.reduceEq, Nat.reduceEqDiff, M2Fs22]
          exact y3
        · have hany : (ws.any fun e => !decide (okW S M e)) = true := by
            rw [List.any_eq_true]
            simp only [Classical.not_forall] at hall
            obtain ⟨e, he, h1⟩ := hall
            exact ⟨e, he, by simp [h1]⟩
          have hc : chk S M ws = 3 := by unfold chk; rw [if_neg (by omega), if_neg hall]
          simp only [hany, hc, coreS, Value.cells, Value.oneCell', Nat.reduceAdd, Nat.reduceSub, Nat.reduceMul, Nat.reduceLeDiff, Int.reduceEq, Nat.reduceEqDiff, M2Fs22]
          exact y3
    · have hc : chk S M ws = 6 := by unfold chk; rw [if_pos (.inr (.inl hm))]
      simp only [inB_one, hm, hc, decide_false, Bool.not_false, coreS, Value.cells, Value.oneCell', Nat.reduceAdd, Nat.reduceSub, Nat.reduceMul, Nat.reduceLeDiff, Int.reduceEq, Nat.reduceEqDiff, M2Fs22]
      exact y2
  · have hc : chk S M ws = 6 := by unfold chk; rw [if_pos (.inl hs)]
    simp only [inB_one, hs, hc, decide_false, Bool.not_false, coreS, Value.cells, Value.oneCell', Nat.reduceAdd, Nat.reduceSub, Nat.reduceMul, Nat.reduceLeDiff, Int.reduceEq, Nat.reduceEqDiff, M2Fs22]
    exact y1
def DeskB (h : Eng.Heap) (g b : Nat) (S M : Nat) (a : Option Addr) (n c : Nat) : Prop := h[g]? = some (.cells #[.int .i64 S, .int .i64 M, .slice a n c, .map (some b)] 99)
theorem open49 (S M : Int) (a : Option Addr) (n c : Nat) (ws : List Wn) (h : Eng.Heap) (hr : Row h a (wsV ws)) (hn : n = ws.length) (hl : n ≤ 1000000) :
    CallsH Try.prog 49 #[.agg #[.int .i64 S, .int .i64 M, .slice a n c]] h (fun v h' => Ext h h' ∧
      ((∃ s m : Nat, S = s ∧ M = m ∧ Vb s m ws ∧ ∃ g b, v = .tuple #[.pointer (some ⟨g, 0, none⟩), .int .i64 0] ∧ DeskB h' g b s m a n c ∧ h'[b]? = some (.map #[] 0) ∧ h.size ≤ g ∧ h.size ≤ b) ∨
       (chk S M ws ≠ 0 ∧ v = .tuple #[.pointer none, .int .i64 (chk S M ws)]))) := by
  (refine CallsH_of_exec Try.func49 rfl bod49 ?_; simp only [Try.ntmps49, Try.results49, coreS, stK_some, splice, Value.cells, Value.oneCell', Nat.reduceAdd, Nat.reduceSub, Nat.reduceMul, Nat.reduceLeDiff, Int.reduceEq, Nat.reduceEqDiff, M2Fs49])
  have x0 : Ext h (h.push (.cells #[.int .i64 S, .int .i64 M, .slice a n c] 24)) := (Ext.refl h).push _
  refine CallsH.mono (check22 S M a n c ws _ (hr.push _) hn hl) ?_
  rintro v h1 ⟨rfl, x1⟩
  have hb1 := x1.get (push_new (h := h))
  have y1 := x0.trans x1
  by_cases hc : chk S M ws = 0
  · simp only [hc, hb1, splice, coreS, Value.cells, Value.oneCell', Nat.reduceAdd, Nat.reduceSub, Nat.reduceMul, Nat.reduceLeDiff, Int.reduceEq, Nat.reduceEqDiff, M2Fs49]
    obtain ⟨s, m, rfl, rfl, V⟩ := chk_ok hc
    exact ⟨(y1.push _).push _, .inl ⟨s, m, rfl, rfl, V, h1.size + 1, h1.size, rfl, by unfold DeskB; exact pn1, by simp, by have := y1.size; omega, y1.size⟩⟩
  · simp only [hc, decide_false, Bool.not_false, coreS, Value.cells, Value.oneCell', Nat.reduceAdd, Nat.reduceSub, Nat.reduceMul, Nat.reduceLeDiff, Int.reduceEq, Nat.reduceEqDiff, M2Fs49]
    refine ⟨y1, .inr ?_⟩
    exact hc
end Go.Proofs.Ytmgkeeefbfefgaa
end
section
namespace Go.Proofs.Ytmgkeeefbfefgaa
open Go Go.Proofs Go.Eng Tab
set_option maxRecDepth 100000
set_option linter.unusedSimpArgs false
set_option linter.unusedVariables false
set_option maxHeartbeats 1000000
set_option linter.defProp false
def M3Fs23 := (And.intro (And.intro (And.intro (And.intro @agg22 @agg3) (And.intro @agg58 @by58)) (And.intro (And.intro @fo24_0 @fo24_1) (And.intro @fo24_2 @fo58_0))) (And.intro (And.intro (And.intro @fo58_1 @inf22) (And.intro @inf3 @inf58)) (And.intro (And.intro @sz22 @sz3) (And.intro @sz58 (And.intro @zero58 @Try.underlying22)))))
theorem check23 (S M : Int) (a : Option Addr) (n c : Nat) (ws : List Wn) (h : Eng.Heap) (hr : Row h a (wsV ws)) (hn : n = ws.length) (hl : n ≤ 1000000) :
    CallsH Try.prog 23 #[.agg #[.int .i64 S, .int .i64 M, .slice a n c]] h (fun v h' => v = .int .i64 (chk S M ws) ∧ Ext h h') := by
  have x0 : Ext h (h.push (.cells #[.int .i64 S, .int .i64 M, .slice a n c] 24)) := (Ext.refl h).push _
  have hb0 := push_new (h := h) (o := .cells #[.int .i64 S, .int .i64 M, .slice a n c] 24)
  have hr0 := hr.push (.cells #[.int .i64 S, .int .i64 M, .slice a n c] 24)
  (refine CallsH_of_exec Try.func23 rfl bod23 ?_; simp only [Try.ntmps23, Try.results23, coreS, stK_some, splice, Value.cells, Value.oneCell', Nat.reduceAdd, Nat.reduceSub, Nat.reduceMul, Nat.reduceLeDiff, Int.reduceEq, Nat.reduceEqDiff, M3Fs23])
  have key : ∀ {p : Int} {q : Prop}, chk S M ws = p → q → Value.int .i64 p = Value.int .i64 (chk S M ws) ∧ q := fun h hq => ⟨by rw [h], hq⟩
  have six : ¬ (1 ≤ S ∧ S ≤ 6) ∨ ¬ (1 ≤ M ∧ M ≤ 6) ∨ 14 < ws.length → chk S M ws = 6 := fun h => by unfold chk; rw [if_pos h]
  refine ⟨fun h1 => key (six (by omega)) x0, fun h1 => ⟨fun h2 => key (six (by omega)) x0, fun h2 => ⟨fun h3 => key (six (by omega)) x0, fun h3 => ⟨fun h4 => key (six (by omega)) x0, fun h4 => ⟨fun h5 => key (six (by omega)) x0, fun h5 => ?_⟩⟩⟩⟩⟩
  have three : ∀ i, i < ws.length → ¬ okW S M (wAt ws i) → chk S M ws = 3 := fun i hi hno => by
    unfold chk
    rw [if_neg (by omega), if_neg]
    exact fun hall => hno (hall _ (wAt_mem hi))
  generalize h.push (.cells #[.int .i64 S, .int .i64 M, .slice a n c] 24) = hh at x0 hb0 hr0 ⊢
  refine WP_loopI [2, 3, 4, 29, 30, 31, 32, 33, 34, 35, 36, 37, 38, 39, 40, 41, 42, 43, 44, 45, 46, 47, 48, 49, 50, 51, 52, 53, 54, 55, 56, 57, 58, 59, 60, 61, 62] (fun g h' => Ext hh h' ∧ ∃ i : Nat, i ≤ n ∧ g 3 = .int .i64 i ∧ (∀ j < i, okW S M (wAt ws j))) (fun g _ => match g 3 with | .int _ m => n - m.toNat | _ => 0) ?_ ?_
  · exact ⟨Ext.refl _, 0, by omega, rfl, fun j hj => by omega⟩
  · rintro g h' ⟨x, i, hin, hg, hno⟩
    have hb := x.get hb0
    have y := x0.trans x
    by_cases hi : i < ws.length
    · have hc := rowW (hr0.ext x) hi
      have hsm := rowW_some hr hi
      have hne : ¬ (h.size = h'.size) := by have := lt_of_get hb; omega
      have hlt : (i : Int) < (n : Int) := by omega
      simp only [hg, hb, hc, hne, hlt, decide_true, if_false, coreS, stK_some, splice, Value.cells, Value.oneCell', Nat.reduceAdd, Nat.reduceSub, Nat.reduceMul, Nat.reduceLeDiff, Int.reduceEq, Nat.reduceEqDiff, M3Fs23]
      refine ⟨by omega, hsm, ?_⟩
      have y' := y.push (.cells #[.int .i64 (wAt ws i).s, .int .i64 (wAt ws i).m] 58)
      refine ⟨fun g1 => key (three i hi (by unfold okW; omega)) y', fun g1 => ⟨fun g2 => key (three i hi (by unfold okW; omega)) y', fun g2 => ⟨fun g3 => key (three i hi (by unfold okW; omega)) y', fun g3 => ⟨fun g4 => key (three i hi (by unfold okW; omega)) y', fun g4 => ?_⟩⟩⟩⟩
      refine ⟨by rw [inK_i64]; omega, roundK_mk (by kernel_rfl) ⟨x.push _, i + 1, by omega, rfl, fun j hj => ?_⟩ ?_⟩
      · by_cases hji : j = i
        · subst hji; unfold okW; omega
        · exact hno j (by omega)
      · show n - ((i : Int) + 1).toNat < n - (i : Int).toNat
        omega
    · have hlt : ¬ ((i : Int) < (n : Int)) := by omega
      simp only [hg, hb, hlt, decide_false, coreS, Value.cells, Value.oneCell', Nat.reduceAdd, Nat.reduceSub, Nat.reduceMul, Nat.reduceLeDiff, Int.reduceEq, Nat.reduceEqDiff, M3Fs23]
      refine key ?_ y
      unfold chk
      rw [if_neg (by omega), if_pos]
      intro w hw
      obtain ⟨j, hj, rfl⟩ := mem_wAt hw
      exact hno j (by omega)
end Go.Proofs.Ytmgkeeefbfefgaa
end
section
set_option linter.unusedVariables false
set_option linter.unusedSimpArgs false
namespace Go.Eng
open Go
attribute [local semireducible] opSem opQS CallsW setD WP
inductive PT where
  | fin
  | quiet (i : Nat) (r : PT)
  | pure (i : Nat) (r : PT)
  | one (i : Nat) (r : PT)
  | keep (i : Nat) (r : PT)
  | fork (x y : Nat) (a b : PT)
  | fork2 (x y : Nat) (u v : Bool) (a b : PT)
  | fork3 (x y z : Nat) (u v w : Bool) (a b c : PT)
def PT.size : PT → Nat
  | .fin => 0
  | .quiet _ r | .pure _ r | .one _ r | .keep _ r => r.size + 1
  | .fork _ _ a _ => a.size + 1
  | .fork2 _ _ _ _ a _ => a.size + 1
  | .fork3 _ _ _ _ _ _ a _ _ => a.size + 1
def PT.G : PT → Nat → Bool
  | .fin, _ => true
  | .quiet _ r, j | .pure _ r, j | .keep _ r, j => r.G j
  | .one i r, j => !(i == j) && r.G j
  | .fork _ _ a b, j => a.G j && b.G j
  | .fork2 x y u v a b, j => (u || !(x == j)) && ((v || !(y == j)) && (a.G j && b.G j))
  | .fork3 x y z u v w a b c, j => (u || !(x == j)) && ((v || !(y == j)) && ((w || !(z == j)) && (a.G j && (b.G j && c.G j))))
section tree
variable {P : Program} {l : Option Nat} {R : Heap → Heap → Prop} {G : Nat → Bool}
theorem opD_any {all : List Oper} {i : Nat} {o : Oper} {e : Env} {d : List Deferred} {w1 : World} {Kx : Env → Heap → Prop} {Kf : Act → World → Prop} (hi : all[i]? = some o)
    (H : guardW o.guard all e (fun e => opW P o.op o.type e w1.heap (fun v h'' => (G i = true → R w1.heap h'') ∧ Kx (putE e o.dst v) h'')) (fun e => (G i = true → R w1.heap w1.heap) ∧ Kx (putE e o.dst undef) w1.heap)) (fin : ∀ e' w', Rest w1 w' → Kx e' w'.heap → Kf ⟨e'.toArray, d⟩ w') :
    opD P all.toArray i (fun a' w' => (G i = true → R w1.heap w'.heap) ∧ Rest w1 w' ∧ Kf a' w') ⟨e.toArray, d⟩ w1 := by
  have hi' : all.toArray[i]? = some o := by simpa using hi
  unfold opD
  simp only [hi']
  rcases guard_sound H o rfl with ⟨hw, hA⟩ | ⟨hw, hB⟩
  · simp only [hw, if_true]
    have h1 := opW_sound hA
    unfold opSem at h1
    refine ⟨h1.1, ?_⟩
    have h2 := h1.2 w1 rfl
    rw [eval_ev, execOp_only]
    have fin' : ∀ v w', Rest w1 w' → ((G i = true → R w1.heap w'.heap) ∧ Kx (putE e o.dst v) w'.heap) → (G i = true → R w1.heap w'.heap) ∧ Rest w1 w' ∧ Kf ((Act.mk e.toArray d).put o.dst v) w' := by
      intro v w' hr' hk
      refine ⟨hk.1, hr', ?_⟩
      rw [put_putE]
      exact fin _ _ hr' hk.2
    unfold semPost at h2
    unfold semPostW
    split at h2
    · exact ⟨fin' _ _ h2.2 h2.1, h2.2⟩
    · exact ⟨fin' _ _ h2.2 h2.1, h2.2⟩
    · exact ⟨h2.1, Calls.mono h2.2 fun x w'' ⟨v, hx, hv, hr''⟩ => ⟨v, hx, fin' v w'' (h2.1.trans hr'') hv, hr''⟩⟩
    · exact ⟨h2.1, RoundIn.mono h2.2 fun x w'' ⟨v, hx, hv, hr''⟩ => ⟨v, hx, fin' v w'' (h2.1.trans hr'') hv, hr''⟩⟩
    · exact h2.elim
  · simp only [hw]
    refine ⟨hB.1, Rest.refl _, ?_⟩
    rw [put_putE]
    exact fin _ _ (Rest.refl _) hB.2
def stO (P : Program) (all : List Oper) (o : Option Oper) (e : Env) (h : Heap) (K : Env → Heap → Prop) : Prop :=
  match o with
  | some o => guardW o.guard all e (fun e => opW P o.op o.type e h (fun v h' => K (putE e o.dst v) h')) (fun e => K (putE e o.dst undef) h)
  | none => False
def execT (P : Program) (R : Heap → Heap → Prop) (all : List Oper) : PT → Cont → Env → List Deferred → Heap → Prop
  | .fin, k, e, d, h => ∀ h', R h h' → k .normal e d h'
  | .quiet i rest, k, e, d, h => match all[i]? with
    | some o => guardW o.guard all e (fun e => opQW P R o.op o.type e h (fun v h' => execT P R all rest k (putE e o.dst v) d h')) (fun e => execT P R all rest k (putE e o.dst undef) d h)
    | none => False
  | .pure i rest, k, e, d, h => match all[i]? with
    | some o => guardW o.guard all e (fun e => opPW P o.op e h (fun v h' => execT P R all rest k (putE e o.dst v) d h')) (fun e => execT P R all rest k (putE e o.dst undef) d h)
    | none => False
  | .one i rest, k, e, d, h => ∀ h', R h h' → stO P all all[i]? e h' (fun e h'' => execT P R all rest k e d h'')
  | .keep i rest, k, e, d, h => ∀ h', R h h' → stO P all all[i]? e h' (fun e h'' => R h' h'' ∧ execT P R all rest k e d h'')
  | .fork x y a b, k, e, d, h => ∀ h', R h h' → stO P all all[x]? e h' (fun e h'' => R h' h'' ∧ execT P R all a k e d h'') ∧ stO P all all[y]? e h' (fun e h'' => R h' h'' ∧ execT P R all b k e d h'')
  | .fork2 x y u v a b, k, e, d, h => ∀ h', R h h' → stO P all all[x]? e h' (fun e h'' => (u = true → R h' h'') ∧ execT P R all a k e d h'') ∧ stO P all all[y]? e h' (fun e h'' => (v = true → R h' h'') ∧ execT P R all b k e d h'')
  | .fork3 x y z u v t a b c, k, e, d, h => ∀ h', R h h' → stO P all all[x]? e h' (fun e h'' => (u = true → R h' h'') ∧ execT P R all a k e d h'') ∧ stO P all all[y]? e h' (fun e h'' => (v = true → R h' h'') ∧ execT P R all b k e d h'') ∧ stO P all all[z]? e h' (fun e h'' => (t = true → R h' h'') ∧ execT P R all c k e d h'')
def okT (G : Nat → Bool) (all : List Oper) : PT → Array Bool → Bool
  | .fin, listed => (Region.ready .any all.toArray listed).isEmpty
  | .quiet i rest, listed => (Region.ready .any all.toArray listed).contains i && blkOk all listed i (blk all listed i all.length 0 []) &&
      ((List.range all.length).all fun j => j == i || listed.getD j true || (blk all listed i all.length 0 []).contains j || (G j && (match all[i]?, all[j]? with | some oi, some oj => oi.apart all.toArray oj | _, _ => true))) &&
      okT G all rest (listed.setIfInBounds i true)
  | .pure i rest, listed => (Region.ready .any all.toArray listed).contains i && blkOk all listed i (blk all listed i all.length 0 []) &&
      ((List.range all.length).all fun j => j == i || listed.getD j true || (blk all listed i all.length 0 []).contains j || (match all[i]?, all[j]? with | some oi, some oj => oi.apart all.toArray oj | _, _ => true)) &&
      okT G all rest (listed.setIfInBounds i true)
  | .one i rest, listed => !(G i) && decide (Region.ready .any all.toArray listed = [i]) && okT G all rest (listed.setIfInBounds i true)
  | .keep i rest, listed => decide (Region.ready .any all.toArray listed = [i]) && okT G all rest (listed.setIfInBounds i true)
  | .fork x y a b, listed => decide (Region.ready .any all.toArray listed = [x, y]) && (decide (a.size = b.size) && (okT G all a (listed.setIfInBounds x true) && okT G all b (listed.setIfInBounds y true)))
  | .fork2 x y u v a b, listed => (u || !(G x)) && ((v || !(G y)) && (decide (Region.ready .any all.toArray listed = [x, y]) && (decide (a.size = b.size) && (okT G all a (listed.setIfInBounds x true) && okT G all b (listed.setIfInBounds y true)))))
  | .fork3 x y z u v t a b c, listed => (u || !(G x)) && ((v || !(G y)) && ((t || !(G z)) && (decide (Region.ready .any all.toArray listed = [x, y, z]) && (decide (a.size = b.size) && (decide (a.size = c.size) && (okT G all a (listed.setIfInBounds x true) && (okT G all b (listed.setIfInBounds y true) && okT G all c (listed.setIfInBounds z true))))))))
theorem stO_sound {all : List Oper} {i : Nat} {e : Env} {d : List Deferred} {w1 : World} {Kx : Env → Heap → Prop} {Kf : Act → World → Prop} (H : stO P all all[i]? e w1.heap (fun e h'' => (G i = true → R w1.heap h'') ∧ Kx e h'')) (fin : ∀ e' w', Rest w1 w' → Kx e' w'.heap → Kf ⟨e'.toArray, d⟩ w') :
    opD P all.toArray i (fun a' w' => (G i = true → R w1.heap w'.heap) ∧ Rest w1 w' ∧ Kf a' w') ⟨e.toArray, d⟩ w1 := by
  cases hi : all[i]? with
  | none => rw [hi] at H; exact H.elim
  | some o => rw [hi] at H; exact opD_any (Kx := Kx) hi H fin
theorem guardW_mono {gd : Option (Nat × Bool)} {all : List Oper} {e : Env} {A A' B B' : Env → Prop} (ha : ∀ e, A e → A' e) (hb : ∀ e, B e → B' e) (H : guardW gd all e A B) : guardW gd all e A' B' := by
  cases gd with
  | none => unfold guardW at H ⊢; exact ha _ H
  | some p =>
    obtain ⟨j, want⟩ := p
    unfold guardW at H ⊢
    simp only at H ⊢
    cases hj : gslot all j with
    | none => simp only [hj] at H ⊢; exact hb _ H
    | some t =>
      simp only [hj] at H ⊢
      unfold boolW at H ⊢
      cases hv : e.getD t undef with
      | bool b =>
        simp only [hv] at H ⊢
        refine ⟨fun h1 => ?_, fun h1 => ?_⟩
        · have h2 := H.1 h1
          by_cases hw : true = want
          · rw [if_pos hw] at h2 ⊢; exact ha _ h2
          · rw [if_neg hw] at h2 ⊢; exact hb _ h2
        · have h2 := H.2 h1
          by_cases hw : false = want
          · rw [if_pos hw] at h2 ⊢; exact ha _ h2
          · rw [if_neg hw] at h2 ⊢; exact hb _ h2
      | _ => first | (simp only [hv] at H ⊢; done) | (simp only [hv] at H ⊢; exact hb _ H)
theorem stO_mono {all : List Oper} {o : Option Oper} {e : Env} {h : Heap} {K K' : Env → Heap → Prop} (H : stO P all o e h K) (hk : ∀ e h, K e h → K' e h) : stO P all o e h K' := by
  cases o with
  | none => exact H.elim
  | some o => exact guardW_mono (fun e he => opW_mono (fun v h hv => hk _ _ hv) he) (fun e he => hk _ _ he) H
theorem execT_sound (hS : Sta R) {all : List Oper} {k : Cont} {w0 : World} (hsel : Region.noSelect all.toArray = true) : ∀ (t : PT) (listed : Array Bool) (e : Env) (d : List Deferred) (w : World), Rest w0 w →
    okT G all t listed = true → execT P R all t k e d w.heap →
    anyR P all.toArray R G (fun a w' => k .normal a.tmps.toList a.defers w'.heap ∧ Rest w0 w') t.size listed ⟨e.toArray, d⟩ w
  | .fin, listed, e, d, w, hr, hok, H => fun w1 hr1 hR1 => by
    refine ⟨by simpa [okT] using hok, ?_, hr.trans hr1⟩
    simpa using H _ hR1
  | .quiet i rest, listed, e, d, w, hr, hok, H => by
    simp only [okT, Bool.and_eq_true] at hok
    obtain ⟨⟨⟨hready, hbk⟩, hG⟩, hok⟩ := hok
    unfold execT at H
    cases hi : all[i]? with
    | none => simp [hi] at H
    | some o =>
      simp only [hi] at H
      have hi' : all.toArray[i]? = some o := by simpa using hi
      obtain ⟨Bk, hBke⟩ : ∃ Bk, Bk = blk all listed i all.length 0 [] := ⟨_, rfl⟩
      rw [← hBke] at hbk hG
      have hb1 : ∀ j ∈ Bk, listed.getD j true = false := fun j hj => by
        have := List.all_eq_true.1 hbk j hj
        simp only [Bool.and_eq_true, Bool.not_eq_true'] at this
        exact this.1.1
      have hb2 : ∀ j ∈ Bk, j ≠ i ∧ ∀ oj, all.toArray[j]? = some oj → ∃ e ∈ oj.after, Region.binds .any e = true ∧ (e.on = i ∨ e.on ∈ Bk) := fun j hj => by
        have := List.all_eq_true.1 hbk j hj
        simp only [Bool.and_eq_true, bne_iff_ne, ne_eq] at this
        refine ⟨this.1.2, fun oj hoj => ?_⟩
        have hj2 : all[j]? = some oj := by simpa using hoj
        have h2 := this.2
        rw [hj2] at h2
        obtain ⟨e, he, hb⟩ := Array.any_eq_true'.1 h2
        simp only [Bool.and_eq_true, Bool.or_eq_true, beq_iff_eq, List.contains_eq_mem, decide_eq_true_eq] at hb
        exact ⟨e, he, hb.1, hb.2⟩
      have hfr : ∀ j oj, all.toArray[j]? = some oj → j ≠ i → listed.getD j true = false → j ∉ Bk → o.apart all.toArray oj = true ∧ G j = true := by
        intro j oj hj hne hun hno
        have hlt : j < all.length := by have := (Array.getElem?_eq_some_iff.1 hj).1; simpa using this
        have := List.all_eq_true.1 hG j (List.mem_range.2 hlt)
        have hj2 : all[j]? = some oj := by simpa using hj
        simp only [hi, hj2, Bool.or_eq_true, Bool.and_eq_true, beq_iff_eq, hne, false_or, hun, Bool.false_eq_true, List.contains_eq_mem, decide_eq_true_eq, hno] at this
        exact ⟨this.2, this.1⟩
      have hrdy : i ∈ Region.ready .any all.toArray listed := by simpa using hready
      rcases guard_sound H o rfl with ⟨hw, hA⟩ | ⟨hw, hB⟩
      · have hq := opQW_sound hS hA
        unfold opQS at hq
        obtain ⟨v, hv, hk⟩ := hq
        refine anyR_first hS hi' (Region.noSelect_spec hsel) Bk hb2 rest.size listed _ w hfr hb1 hrdy (v := v) ?_ ?_
        · refine .inl ⟨hw, fun w' hr' hR' => ?_⟩
          have h1 := hv _ hR'
          refine ⟨h1.1, ?_⟩
          have h2 := h1.2 w' rfl
          rw [eval_ev, execOp_only]
          unfold semPost at h2
          unfold semPostW
          split at h2
          · exact h2
          · exact h2
          · exact h2
          · exact h2
          · exact h2.elim
        · rw [put_putE]
          exact execT_sound hS hsel rest _ _ d w hr hok hk
      · refine anyR_first hS hi' (Region.noSelect_spec hsel) Bk hb2 rest.size listed _ w hfr hb1 hrdy (v := undef) (.inr ⟨hw, rfl⟩) ?_
        rw [put_putE]
        exact execT_sound hS hsel rest _ _ d w hr hok hB
  | .pure i rest, listed, e, d, w, hr, hok, H => by
    simp only [okT, Bool.and_eq_true] at hok
    obtain ⟨⟨⟨hready, hbk⟩, hG⟩, hok⟩ := hok
    unfold execT at H
    cases hi : all[i]? with
    | none => simp [hi] at H
    | some o =>
      simp only [hi] at H
      have hi' : all.toArray[i]? = some o := by simpa using hi
      obtain ⟨Bk, hBke⟩ : ∃ Bk, Bk = blk all listed i all.length 0 [] := ⟨_, rfl⟩
      rw [← hBke] at hbk hG
      have hb1 : ∀ j ∈ Bk, listed.getD j true = false := fun j hj => by
        have := List.all_eq_true.1 hbk j hj
        simp only [Bool.and_eq_true, Bool.not_eq_true'] at this
        exact this.1.1
      have hb2 : ∀ j ∈ Bk, j ≠ i ∧ ∀ oj, all.toArray[j]? = some oj → ∃ e ∈ oj.after, Region.binds .any e = true ∧ (e.on = i ∨ e.on ∈ Bk) := fun j hj => by
        have := List.all_eq_true.1 hbk j hj
        simp only [Bool.and_eq_true, bne_iff_ne, ne_eq] at this
        refine ⟨this.1.2, fun oj hoj => ?_⟩
        have hj2 : all[j]? = some oj := by simpa using hoj
        have h2 := this.2
        rw [hj2] at h2
        obtain ⟨e, he, hb⟩ := Array.any_eq_true'.1 h2
        simp only [Bool.and_eq_true, Bool.or_eq_true, beq_iff_eq, List.contains_eq_mem, decide_eq_true_eq] at hb
        exact ⟨e, he, hb.1, hb.2⟩
      have hfr : ∀ j oj, all.toArray[j]? = some oj → j ≠ i → listed.getD j true = false → j ∉ Bk → o.apart all.toArray oj = true := by
        intro j oj hj hne hun hno
        have hlt : j < all.length := by have := (Array.getElem?_eq_some_iff.1 hj).1; simpa using this
        have := List.all_eq_true.1 hG j (List.mem_range.2 hlt)
        have hj2 : all[j]? = some oj := by simpa using hj
        simp only [hi, hj2, Bool.or_eq_true, Bool.and_eq_true, beq_iff_eq, hne, false_or, hun, Bool.false_eq_true, List.contains_eq_mem, decide_eq_true_eq, hno] at this
        exact this
      have hrdy : i ∈ Region.ready .any all.toArray listed := by simpa using hready
      rcases guard_sound H o rfl with ⟨hw, hA⟩ | ⟨hw, hB⟩
      · obtain ⟨hd, v, hk, hv⟩ := opPW_sound (ty := o.type) hA
        refine anyR_firstP hS hi' (Region.noSelect_spec hsel) Bk hb2 rest.size listed _ w hfr hb1 hrdy (v := v) ?_ ?_
        · refine .inl ⟨hw, fun w' hr' => ⟨hd, ?_⟩⟩
          rw [eval_ev, execOp_only, hv w']
          exact ⟨⟨rfl, rfl⟩, Rest.refl _⟩
        · rw [put_putE]
          exact execT_sound hS hsel rest _ _ d w hr hok hk
      · refine anyR_firstP hS hi' (Region.noSelect_spec hsel) Bk hb2 rest.size listed _ w hfr hb1 hrdy (v := undef) (.inr ⟨hw, rfl⟩) ?_
        rw [put_putE]
        exact execT_sound hS hsel rest _ _ d w hr hok hB
  | .one i rest, listed, e, d, w, hr, hok, H => by
    intro w1 hr1 hR1
    simp only [okT, Bool.and_eq_true, decide_eq_true_eq, Bool.not_eq_true'] at hok
    obtain ⟨⟨hG, h1⟩, hok⟩ := hok
    rw [h1]
    refine ⟨fun h => by simp at h, fun q hq => ?_⟩
    have hq : q = i := by simpa using hq
    subst hq
    refine stO_sound (Kx := fun e h'' => execT P R all rest k e d h'') (stO_mono (H _ hR1) fun e h hk => ⟨fun hh => (by rw [hG] at hh; cases hh), hk⟩) fun e2 w2 hr2 K2 => ?_
    exact execT_sound hS hsel rest _ _ d w2 (hr.trans (hr1.trans hr2)) hok K2
  | .keep i rest, listed, e, d, w, hr, hok, H => by
    intro w1 hr1 hR1
    simp only [okT, Bool.and_eq_true, decide_eq_true_eq] at hok
    obtain ⟨h1, hok⟩ := hok
    rw [h1]
    refine ⟨fun h => by simp at h, fun q hq => ?_⟩
    have hq : q = i := by simpa using hq
    subst hq
    refine stO_sound (Kx := fun e h'' => execT P R all rest k e d h'') (stO_mono (H _ hR1) fun e h hk => ⟨fun _ => hk.1, hk.2⟩) fun e2 w2 hr2 K2 => ?_
    exact execT_sound hS hsel rest _ _ d w2 (hr.trans (hr1.trans hr2)) hok K2
  | .fork x y a b, listed, e, d, w, hr, hok, H => by
    intro w1 hr1 hR1
    simp only [okT, Bool.and_eq_true, decide_eq_true_eq] at hok
    obtain ⟨h1, h2, o1, o2⟩ := hok
    obtain ⟨A, B⟩ := H _ hR1
    rw [h1]
    refine ⟨fun h => by simp at h, fun q hq => ?_⟩
    have hq : q = x ∨ q = y := by simpa using hq
    rcases hq with rfl | rfl
    · refine stO_sound (Kx := fun e h'' => execT P R all a k e d h'') (stO_mono A fun e h hk => ⟨fun _ => hk.1, hk.2⟩) fun e2 w2 hr2 K2 => ?_
      exact execT_sound hS hsel a _ _ d w2 (hr.trans (hr1.trans hr2)) o1 K2
    · refine stO_sound (Kx := fun e h'' => execT P R all b k e d h'') (stO_mono B fun e h hk => ⟨fun _ => hk.1, hk.2⟩) fun e2 w2 hr2 K2 => ?_
      have := execT_sound (w0 := w0) hS hsel b _ _ d w2 (hr.trans (hr1.trans hr2)) o2 K2
      rw [← h2] at this
      exact this
  | .fork2 x y u v a b, listed, e, d, w, hr, hok, H => by
    intro w1 hr1 hR1
    simp only [okT, Bool.and_eq_true, decide_eq_true_eq, Bool.or_eq_true, Bool.not_eq_true'] at hok
    obtain ⟨gx, gy, h1, h2, o1, o2⟩ := hok
    obtain ⟨A, B⟩ := H _ hR1
    rw [h1]
    refine ⟨fun h => by simp at h, fun q hq => ?_⟩
    have hq : q = x ∨ q = y := by simpa using hq
    rcases hq with rfl | rfl
    · refine stO_sound (Kx := fun e h'' => execT P R all a k e d h'') (stO_mono A fun e h hk => ⟨fun hh => hk.1 (gx.resolve_right (by rw [hh]; decide)), hk.2⟩) fun e2 w2 hr2 K2 => ?_
      exact execT_sound hS hsel a _ _ d w2 (hr.trans (hr1.trans hr2)) o1 K2
    · refine stO_sound (Kx := fun e h'' => execT P R all b k e d h'') (stO_mono B fun e h hk => ⟨fun hh => hk.1 (gy.resolve_right (by rw [hh]; decide)), hk.2⟩) fun e2 w2 hr2 K2 => ?_
      have := execT_sound (w0 := w0) hS hsel b _ _ d w2 (hr.trans (hr1.trans hr2)) o2 K2
      rw [← h2] at this
      exact this
  | .fork3 x y z u v t a b c, listed, e, d, w, hr, hok, H => by
    intro w1 hr1 hR1
    simp only [okT, Bool.and_eq_true, decide_eq_true_eq, Bool.or_eq_true, Bool.not_eq_true'] at hok
    obtain ⟨gx, gy, gz, h1, h2, h3, o1, o2, o3⟩ := hok
    obtain ⟨A, B, C⟩ := H _ hR1
    rw [h1]
    refine ⟨fun h => by simp at h, fun q hq => ?_⟩
    have hq : q = x ∨ q = y ∨ q = z := by simpa using hq
    rcases hq with rfl | rfl | rfl
    · refine stO_sound (Kx := fun e h'' => execT P R all a k e d h'') (stO_mono A fun e h hk => ⟨fun hh => hk.1 (gx.resolve_right (by rw [hh]; decide)), hk.2⟩) fun e2 w2 hr2 K2 => ?_
      exact execT_sound hS hsel a _ _ d w2 (hr.trans (hr1.trans hr2)) o1 K2
    · refine stO_sound (Kx := fun e h'' => execT P R all b k e d h'') (stO_mono B fun e h hk => ⟨fun hh => hk.1 (gy.resolve_right (by rw [hh]; decide)), hk.2⟩) fun e2 w2 hr2 K2 => ?_
      have := execT_sound (w0 := w0) hS hsel b _ _ d w2 (hr.trans (hr1.trans hr2)) o2 K2
      rw [← h2] at this
      exact this
    · refine stO_sound (Kx := fun e h'' => execT P R all c k e d h'') (stO_mono C fun e h hk => ⟨fun hh => hk.1 (gz.resolve_right (by rw [hh]; decide)), hk.2⟩) fun e2 w2 hr2 K2 => ?_
      have := execT_sound (w0 := w0) hS hsel c _ _ d w2 (hr.trans (hr1.trans hr2)) o3 K2
      rw [← h3] at this
      exact this
theorem WP_tree (hm : P.follows .mixedOrders = true) (hS : Sta R) {id : Nat} {all : List Oper} {k : Cont} {e : Env} {d : List Deferred} {h : Heap} (t : PT)
    (hsel : Region.noSelect all.toArray = true) (hlen : t.size = all.length) (hok : okT t.G all t (Array.replicate all.length false) = true)
    (H : execT P R all t k e d h) : WP l P (.region id all.toArray true) k e d h := by
  unfold WP
  intro w hw
  subst hw
  refine wpIn_region_any hm ?_
  have h1 := execT_sound (w0 := w) (G := t.G) hS hsel t _ e d { w with drawn := w.drawn + 1 } ⟨rfl, rfl, rfl⟩ hok H
  rw [hlen] at h1
  have h2 := wpAny_of_anyR (l := l) (Q' := fun x a w' => k x a.tmps.toList a.defers w'.heap ∧ Rest w w') hS (fun a w' hq => hq) _ _ _ _ h1
  simpa using h2
variable {all : List Oper} {rest : PT} {k : Cont} {e : Env} {d : List Deferred} {h : Heap} {dst : Option Tmp} {op : Op} {ty : TypeId} {pos : String} {after : Array Edge} {i x y : Nat} {a b : PT}
def setT (P : Program) (R : Heap → Heap → Prop) (all : List Oper) (rest : PT) (k : Cont) (dst : Option Tmp) (e : Env) (d : List Deferred) : Value → Heap → Prop := fun v h => execT P R all rest k (putE e dst v) d h
theorem setT_eq {v : Value} : setT P R all rest k dst e d v h = execT P R all rest k (putE e dst v) d h := eqi rfl
def stT (P : Program) (R : Heap → Heap → Prop) (o : Option Oper) (all : List Oper) (rest : PT) (k : Cont) (e : Env) (d : List Deferred) (h : Heap) : Prop :=
  match o with
  | some o => guardW o.guard all e (fun e => opQW P R o.op o.type e h (fun v h' => setT P R all rest k o.dst e d v h')) (fun e => execT P R all rest k (putE e o.dst undef) d h)
  | none => False
theorem execT_quiet : execT P R all (.quiet i rest) k e d h = stT P R all[i]? all rest k e d h := by simp only [execT, stT, setT]
theorem stT_plain : stT P R (some ⟨dst, op, ty, pos, after, none⟩) all rest k e d h = opQW P R op ty e h (setT P R all rest k dst e d) := by simp only [stT, guardW]
def stTp (P : Program) (R : Heap → Heap → Prop) (o : Option Oper) (all : List Oper) (rest : PT) (k : Cont) (e : Env) (d : List Deferred) (h : Heap) : Prop :=
  match o with
  | some o => guardW o.guard all e (fun e => opPW P o.op e h (fun v h' => setT P R all rest k o.dst e d v h')) (fun e => execT P R all rest k (putE e o.dst undef) d h)
  | none => False
theorem execT_pure : execT P R all (.pure i rest) k e d h = stTp P R all[i]? all rest k e d h := by simp only [execT, stTp, setT]
theorem stTp_plain : stTp P R (some ⟨dst, op, ty, pos, after, none⟩) all rest k e d h = opPW P op e h (setT P R all rest k dst e d) := by simp only [stTp, guardW]
theorem stO_plain {K : Env → Heap → Prop} : stO P all (some ⟨dst, op, ty, pos, after, none⟩) e h K = opW P op ty e h (fun v h' => K (putE e dst v) h') := by simp only [stO, guardW]
def gtT (P : Program) (R : Heap → Heap → Prop) (v : Value) (s : Tmp) (want : Bool) (op : Op) (ty : TypeId) (all : List Oper) (rest : PT) (k : Cont) (dst : Option Tmp) (e : Env) (d : List Deferred) (h : Heap) : Prop :=
  boolW v (fun b => if b = want then opQW P R op ty (e.set s (.bool b)) h (setT P R all rest k dst (e.set s (.bool b)) d) else execT P R all rest k (putE (e.set s (.bool b)) dst undef) d h) (execT P R all rest k (putE e dst undef) d h)
def gtTo (P : Program) (R : Heap → Heap → Prop) (s : Option Tmp) (want : Bool) (op : Op) (ty : TypeId) (all : List Oper) (rest : PT) (k : Cont) (dst : Option Tmp) (e : Env) (d : List Deferred) (h : Heap) : Prop :=
  match s with | some s => gtT P R (e.getD s undef) s want op ty all rest k dst e d h | none => execT P R all rest k (putE e dst undef) d h
theorem stT_guard {j : Nat} {want : Bool} : stT P R (some ⟨dst, op, ty, pos, after, some (j, want)⟩) all rest k e d h = gtTo P R (gslot all j) want op ty all rest k dst e d h := by
  simp only [stT, guardW, gtTo]; cases gslot all j <;> rfl
theorem gtTo_some {s : Tmp} {want : Bool} : gtTo P R (some s) want op ty all rest k dst e d h = gtT P R (e.getD s undef) s want op ty all rest k dst e d h := eqi rfl
theorem gtT_tt {s : Tmp} : gtT P R (.bool true) s true op ty all rest k dst e d h = opQW P R op ty (e.set s (.bool true)) h (setT P R all rest k dst (e.set s (.bool true)) d) := by simp [gtT, boolW]
theorem gtT_ff {s : Tmp} : gtT P R (.bool false) s false op ty all rest k dst e d h = opQW P R op ty (e.set s (.bool false)) h (setT P R all rest k dst (e.set s (.bool false)) d) := by simp [gtT, boolW]
theorem gtT_tf {s : Tmp} : gtT P R (.bool true) s false op ty all rest k dst e d h = execT P R all rest k (putE (e.set s (.bool true)) dst undef) d h := by simp [gtT, boolW]
theorem gtT_ft {s : Tmp} : gtT P R (.bool false) s true op ty all rest k dst e d h = execT P R all rest k (putE (e.set s (.bool false)) dst undef) d h := by simp [gtT, boolW]
theorem gtT_undef {s : Tmp} {w : Bool} {vs : Array Value} : gtT P R (.tuple vs) s w op ty all rest k dst e d h = execT P R all rest k (putE e dst undef) d h := by simp [gtT, boolW]
def gtP (P : Program) (R : Heap → Heap → Prop) (v : Value) (s : Tmp) (want : Bool) (op : Op) (all : List Oper) (rest : PT) (k : Cont) (dst : Option Tmp) (e : Env) (d : List Deferred) (h : Heap) : Prop :=
  boolW v (fun b => if b = want then opPW P op (e.set s (.bool b)) h (setT P R all rest k dst (e.set s (.bool b)) d) else execT P R all rest k (putE (e.set s (.bool b)) dst undef) d h) (execT P R all rest k (putE e dst undef) d h)
def gtPo (P : Program) (R : Heap → Heap → Prop) (s : Option Tmp) (want : Bool) (op : Op) (all : List Oper) (rest : PT) (k : Cont) (dst : Option Tmp) (e : Env) (d : List Deferred) (h : Heap) : Prop :=
  match s with | some s => gtP P R (e.getD s undef) s want op all rest k dst e d h | none => execT P R all rest k (putE e dst undef) d h
theorem stTp_guard {j : Nat} {want : Bool} : stTp P R (some ⟨dst, op, ty, pos, after, some (j, want)⟩) all rest k e d h = gtPo P R (gslot all j) want op all rest k dst e d h := by
  simp only [stTp, guardW, gtPo]; cases gslot all j <;> rfl
theorem gtPo_some {s : Tmp} {want : Bool} : gtPo P R (some s) want op all rest k dst e d h = gtP P R (e.getD s undef) s want op all rest k dst e d h := eqi rfl
theorem gtP_tt {s : Tmp} : gtP P R (.bool true) s true op all rest k dst e d h = opPW P op (e.set s (.bool true)) h (setT P R all rest k dst (e.set s (.bool true)) d) := by simp [gtP, boolW]
theorem gtP_ff {s : Tmp} : gtP P R (.bool false) s false op all rest k dst e d h = opPW P op (e.set s (.bool false)) h (setT P R all rest k dst (e.set s (.bool false)) d) := by simp [gtP, boolW]
theorem gtP_tf {s : Tmp} : gtP P R (.bool true) s false op all rest k dst e d h = execT P R all rest k (putE (e.set s (.bool true)) dst undef) d h := by simp [gtP, boolW]
theorem gtP_ft {s : Tmp} : gtP P R (.bool false) s true op all rest k dst e d h = execT P R all rest k (putE (e.set s (.bool false)) dst undef) d h := by simp [gtP, boolW]
theorem gtP_undef {s : Tmp} {w : Bool} {vs : Array Value} : gtP P R (.tuple vs) s w op all rest k dst e d h = execT P R all rest k (putE e dst undef) d h := by simp [gtP, boolW]
def gtO (P : Program) (v : Value) (s : Tmp) (want : Bool) (op : Op) (ty : TypeId) (dst : Option Tmp) (e : Env) (h : Heap) (K : Env → Heap → Prop) : Prop :=
  boolW v (fun b => if b = want then opW P op ty (e.set s (.bool b)) h (fun v h' => K (putE (e.set s (.bool b)) dst v) h') else K (putE (e.set s (.bool b)) dst undef) h) (K (putE e dst undef) h)
def gtOo (P : Program) (s : Option Tmp) (want : Bool) (op : Op) (ty : TypeId) (dst : Option Tmp) (e : Env) (h : Heap) (K : Env → Heap → Prop) : Prop :=
  match s with | some s => gtO P (e.getD s undef) s want op ty dst e h K | none => K (putE e dst undef) h
theorem stO_guard {j : Nat} {want : Bool} {K : Env → Heap → Prop} : stO P all (some ⟨dst, op, ty, pos, after, some (j, want)⟩) e h K = gtOo P (gslot all j) want op ty dst e h K := by
  simp only [stO, guardW, gtOo]; cases gslot all j <;> rfl
theorem gtOo_some {s : Tmp} {want : Bool} {K : Env → Heap → Prop} : gtOo P (some s) want op ty dst e h K = gtO P (e.getD s undef) s want op ty dst e h K := eqi rfl
theorem gtO_tt {s : Tmp} {K : Env → Heap → Prop} : gtO P (.bool true) s true op ty dst e h K = opW P op ty (e.set s (.bool true)) h (fun v h' => K (putE (e.set s (.bool true)) dst v) h') := by simp [gtO, boolW]
theorem gtO_ff {s : Tmp} {K : Env → Heap → Prop} : gtO P (.bool false) s false op ty dst e h K = opW P op ty (e.set s (.bool false)) h (fun v h' => K (putE (e.set s (.bool false)) dst v) h') := by simp [gtO, boolW]
theorem gtO_tf {s : Tmp} {K : Env → Heap → Prop} : gtO P (.bool true) s false op ty dst e h K = K (putE (e.set s (.bool true)) dst undef) h := by simp [gtO, boolW]
theorem gtO_ft {s : Tmp} {K : Env → Heap → Prop} : gtO P (.bool false) s true op ty dst e h K = K (putE (e.set s (.bool false)) dst undef) h := by simp [gtO, boolW]
theorem gtO_undef {s : Tmp} {w : Bool} {vs : Array Value} {K : Env → Heap → Prop} : gtO P (.tuple vs) s w op ty dst e h K = K (putE e dst undef) h := by simp [gtO, boolW]
set_option linter.defProp false
def treeS := And.intro (And.intro (And.intro @execT_quiet @execT_pure) (And.intro (And.intro @stT_plain @stTp_plain) (And.intro (And.intro @stT_guard @stTp_guard) (And.intro @stO_plain @stO_guard))))
  (And.intro (And.intro (And.intro @gtTo_some @gtPo_some) (And.intro @gtOo_some @setT_eq)) (And.intro (And.intro (And.intro @gtT_tt @gtT_ff) (And.intro @gtT_tf (And.intro @gtT_ft @gtT_undef))) (And.intro (And.intro (And.intro @gtP_tt @gtP_ff) (And.intro @gtP_tf (And.intro @gtP_ft @gtP_undef))) (And.intro (And.intro @gtO_tt @gtO_ff) (And.intro @gtO_tf (And.intro @gtO_ft @gtO_undef))))))
theorem execT_fin (H : ∀ h', R h h' → k .normal e d h') : execT P R all .fin k e d h := H
theorem execT_one (H : ∀ h', R h h' → stO P all all[i]? e h' (fun e h'' => execT P R all rest k e d h'')) : execT P R all (.one i rest) k e d h := H
theorem execT_keep (H : ∀ h', R h h' → stO P all all[i]? e h' (fun e h'' => R h' h'' ∧ execT P R all rest k e d h'')) : execT P R all (.keep i rest) k e d h := H
theorem execT_fork2 {u v : Bool} (H : ∀ h', R h h' → stO P all all[x]? e h' (fun e h'' => (u = true → R h' h'') ∧ execT P R all a k e d h'') ∧ stO P all all[y]? e h' (fun e h'' => (v = true → R h' h'') ∧ execT P R all b k e d h'')) : execT P R all (.fork2 x y u v a b) k e d h := H
theorem eqh {p : Heap → Prop} (H : p h) : ∀ h', EqH h h' → p h' := fun h' hh => by rw [show h' = h from hh]; exact H
theorem execT_finE (H : k .normal e d h) : execT P EqH all .fin k e d h := eqh H
theorem execT_oneE (H : stO P all all[i]? e h (fun e h'' => execT P EqH all rest k e d h'')) : execT P EqH all (.one i rest) k e d h := eqh (p := fun h => stO P all all[i]? e h (fun e h'' => execT P EqH all rest k e d h'')) H
theorem execT_fork2E {u v : Bool} (A : stO P all all[x]? e h (fun e h'' => (u = true → EqH h h'') ∧ execT P EqH all a k e d h'')) (B : stO P all all[y]? e h (fun e h'' => (v = true → EqH h h'') ∧ execT P EqH all b k e d h'')) : execT P EqH all (.fork2 x y u v a b) k e d h :=
  eqh (p := fun h => stO P all all[x]? e h (fun e h'' => (u = true → EqH h h'') ∧ execT P EqH all a k e d h'') ∧ stO P all all[y]? e h (fun e h'' => (v = true → EqH h h'') ∧ execT P EqH all b k e d h'')) ⟨A, B⟩
end tree
section fresh
variable {P : Program} {h : Heap} {er : Env} {ty : TypeId}
end fresh
end Go.Eng
end
