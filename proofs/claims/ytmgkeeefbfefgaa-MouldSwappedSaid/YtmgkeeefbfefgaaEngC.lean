/- The engine: heaps that change at one block; entries of maps. No condition. -/
import Derived.Test.YtmgkeeefbfefgaaEngM
set_option linter.unusedVariables false
set_option linter.unusedSimpArgs false
namespace Go.Eng
open Go
structure Chg (h h' : Heap) (b : Nat) : Prop where
  size : h.size ≤ h'.size
  old : ∀ c, c < h.size → c ≠ b → h'[c]? = h[c]?
theorem Chg.refl (h : Heap) (b : Nat) : Chg h h b := ⟨Nat.le_refl _, fun _ _ _ => rfl⟩
theorem Chg.of_ext {h h' : Heap} (x : Ext h h') (b : Nat) : Chg h h' b := ⟨x.size, fun c hc _ => x.old c hc⟩
theorem Chg.trans {h h' h'' : Heap} {b : Nat} (x : Chg h h' b) (y : Chg h' h'' b) : Chg h h'' b := ⟨Nat.le_trans x.size y.size, fun c hc hne => (y.old c (Nat.lt_of_lt_of_le hc x.size) hne).trans (x.old c hc hne)⟩
theorem Chg.get {h h' : Heap} {b c : Nat} {o : Obj} (x : Chg h h' b) (hc : h[c]? = some o) (hne : c ≠ b) : h'[c]? = some o := (x.old c (lt_of_get hc) hne).trans hc
theorem Chg.upd {h h' h'' : Heap} {b : Nat} (x : Chg h h' b) (u : Upd h' h'' b) : Chg h h'' b := ⟨by rw [u.size]; exact x.size, fun c hc hne => (u.old c hne).trans (x.old c hc hne)⟩
theorem Chg.upd_new {h h' h'' : Heap} {b c : Nat} (x : Chg h h' b) (u : Upd h' h'' c) (hc : h.size ≤ c) : Chg h h'' b := ⟨by rw [u.size]; exact x.size, fun i hi hne => (u.old i (by omega)).trans (x.old i hi hne)⟩
theorem Chg.ext {h h' h'' : Heap} {b : Nat} (x : Chg h h' b) (y : Ext h' h'') : Chg h h'' b := x.trans (.of_ext y b)
theorem Chg.push {h h' : Heap} {b : Nat} (x : Chg h h' b) (o : Obj) : Chg h (h'.push o) b := x.ext ((Ext.refl h').push o)
theorem Chg.fresh {h0 h h' : Heap} {b : Nat} (x : Ext h0 h) (c : Chg h h' b) (hb : h0.size ≤ b) : Ext h0 h' := ⟨Nat.le_trans x.size c.size, fun i hi => (c.old i (Nat.lt_of_lt_of_le hi x.size) (by omega)).trans (x.old i hi)⟩
/-- Cells are not a map. -/
theorem Row.chg {h h' : Heap} {b : Nat} {a : Option Addr} {cs : List Value} {ents : Array MapEntry} {c : Nat} (H : Row h a cs) (hb : h[b]? = some (.map ents c)) (x : Chg h h' b) : Row h' a cs := by
  rcases H with H | ⟨g, off, cur, ct, fr, h1, h2, h3, h4⟩
  · exact .inl H
  · refine .inr ⟨g, off, cur, ct, fr, h1, x.get h2 ?_, h3, h4⟩
    rintro rfl
    rw [hb] at h2
    cases h2
theorem IntsV.chg {h h' : Heap} {b n : Nat} {a : Option Addr} {xs : List Int} {ents : Array MapEntry} {c : Nat} (H : IntsV h a n xs) (hb : h[b]? = some (.map ents c)) (x : Chg h h' b) : IntsV h' a n xs := ⟨H.len, H.row.chg hb x⟩
section maps
variable {α : Type} [DecidableEq α]
theorem getA_put {a a' : α} {v : Value} {c : Nat} : ∀ {es : List (α × Value × Nat)}, getA a' (putA a v c es) = if a' = a then some v else getA a' es
  | [] => by simp only [putA, getA]
  | x :: es => by
    have ih := getA_put (a := a) (a' := a') (v := v) (c := c) (es := es)
    by_cases hx : a = x.1
    · simp only [putA, hx, if_true, getA]
      by_cases h : a' = x.1 <;> simp [h]
    · simp only [putA, hx, if_false, getA, ih]
      by_cases h : a' = x.1
      · have : ¬ a' = a := fun e => hx (by rw [← e, h])
        simp [h, this]
        intro e; exact absurd e.symm hx
      · simp [h]
theorem getA_del {a a' : α} (hne : a' ≠ a) : ∀ {es : List (α × Value × Nat)}, getA a' (delA a es) = getA a' es
  | [] => rfl
  | x :: es => by
    by_cases hx : a = x.1
    · have : ¬ a' = x.1 := fun e => hne (by rw [e, hx])
      simp [delA, hx, getA, this]
    · simp only [delA, hx, if_false, getA, getA_del hne (es := es)]
theorem put_keys {a : α} {v : Value} {c : Nat} : ∀ {es : List (α × Value × Nat)}, (putA a v c es).map (·.1) = if a ∈ es.map (·.1) then es.map (·.1) else es.map (·.1) ++ [a]
  | [] => by simp [putA]
  | x :: es => by
    have ih := put_keys (a := a) (v := v) (c := c) (es := es)
    by_cases hx : a = x.1
    · simp [putA, hx]
    · simp only [putA, hx, if_false, List.map_cons, ih, List.mem_cons, false_or]
      split <;> simp
theorem put_nodup {a : α} {v : Value} {c : Nat} {es : List (α × Value × Nat)} (h : (es.map (·.1)).Nodup) : ((putA a v c es).map (·.1)).Nodup := by
  rw [put_keys]
  split
  · exact h
  · rename_i hn
    rw [List.nodup_append]
    refine ⟨h, by simp, ?_⟩
    intro x hx y hy
    simp at hy
    subst hy
    exact fun e => hn (by rw [← e]; exact hx)
theorem del_nodup {a : α} {es : List (α × Value × Nat)} (h : (es.map (·.1)).Nodup) : ((delA a es).map (·.1)).Nodup := h.sublist (del_sub.map _)
theorem getA_mem {a : α} : ∀ {es : List (α × Value × Nat)}, (es.map (·.1)).Nodup → ∀ {x}, x ∈ es → x.1 = a → getA a es = some x.2.1
  | [], _, x, h, _ => by cases h
  | y :: es, hn, x, h, he => by
    rw [List.map_cons, List.nodup_cons] at hn
    rcases List.mem_cons.1 h with rfl | h
    · simp [getA, he]
    · have : ¬ a = y.1 := fun e => hn.1 (by rw [← e, ← he]; exact List.mem_map.2 ⟨x, h, rfl⟩)
      simp only [getA, this, if_false]
      exact getA_mem hn.2 h he
theorem mem_getA {a : α} {v : Value} : ∀ {es : List (α × Value × Nat)}, getA a es = some v → ∃ c, (a, v, c) ∈ es
  | [], h => by cases h
  | x :: es, h => by
    simp only [getA] at h
    split at h
    · rename_i hx
      cases h
      exact ⟨x.2.2, by rw [hx]; simp⟩
    · obtain ⟨c, hc⟩ := mem_getA h
      exact ⟨c, by simp [hc]⟩
end maps
def leftN (r b : Nat) (h : Heap) : Nat := match h[r]?, h[b]? with
  | some (.mapIter _ _ seen _), some (.map es _) => (es.toList.filter fun e => !seen.contains e.born).length
  | _, _ => 0
theorem leftN_eq {α : Type} {kv : α → Value} {r b since c0 c : Nat} {seen : Array Nat} {h : Heap} {es : List (α × Value × Nat)} (M : MapV kv h b es c) (hr : h[r]? = some (.mapIter (some b) since seen c0)) : leftN r b h = (es.filter fun x => !seen.contains x.2.2).length := by
  rw [leftN, hr, M.obj]
  simp only [List.toList_toArray, List.filter_map, List.length_map]
  rfl
theorem filter_lt {α : Type} {p q : α → Bool} : ∀ {l : List α}, (∀ x ∈ l, q x = true → p x = true) → ∀ {e : α}, e ∈ l → p e = true → q e = false → (l.filter q).length < (l.filter p).length
  | [], _, e, h, _, _ => by cases h
  | y :: l, hs, e, h, hp, hq => by
    have hle : (l.filter q).length ≤ (l.filter p).length := by
      have : l.filter q = (l.filter p).filter q := by
        rw [List.filter_filter]
        apply List.filter_congr
        intro x hx
        by_cases hqx : q x = true
        · simp [hqx, hs x (by simp [hx]) hqx]
        · simp [hqx]
      rw [this]
      exact List.length_filter_le _ _
    rcases List.mem_cons.1 h with rfl | h
    · simp only [List.filter_cons, hp, hq, if_true, List.length_cons]
      simp
      omega
    · have ih := filter_lt (p := p) (q := q) (fun x hx => hs x (by simp [hx])) h hp hq
      simp only [List.filter_cons]
      by_cases hqy : q y = true
      · simp [hqy, hs y (by simp) hqy, ih]
      · by_cases hpy : p y = true
        · simp [hqy, hpy]; omega
        · simp [hqy, hpy, ih]
theorem born_eq {α : Type} {es : List (α × Value × Nat)} (hb : (es.map (·.2.2)).Pairwise (· < ·)) {x y : α × Value × Nat} (hx : x ∈ es) (hy : y ∈ es) (he : x.2.2 = y.2.2) : x = y := by
  induction es with
  | nil => cases hx
  | cons z es ih =>
    rw [List.map_cons, List.pairwise_cons] at hb
    rcases List.mem_cons.1 hx with h1 | h1
    · rcases List.mem_cons.1 hy with h2 | h2
      · rw [h1, h2]
      · have := hb.1 _ (List.mem_map.2 ⟨y, h2, rfl⟩)
        rw [← h1] at this
        omega
    · rcases List.mem_cons.1 hy with h2 | h2
      · have := hb.1 _ (List.mem_map.2 ⟨x, h1, rfl⟩)
        rw [← h2] at this
        omega
      · exact ih hb.2 h1 h2
end Go.Eng
