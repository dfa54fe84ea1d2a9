/- Wants and books, and what CheckBook, Loads and CheckDays say: plain definitions. -/
import Derived.Test.YtmgkeeefbfefgaaTab
import Derived.Test.YtmgkeeefbfefgaaEngM
import Derived.Test.YtmgkeeefbfefgaaEngC
import Derived.Test.YtmgkeeefbfefgaaML12
namespace Go.Proofs.Ytmgkeeefbfefgaa
open Go Go.Proofs Go.Eng Tab
set_option maxRecDepth 100000
set_option linter.unusedSimpArgs false
set_option linter.unusedVariables false
set_option linter.defProp false
set_option maxHeartbeats 1000000
theorem intsV_one {h : Eng.Heap} {b : Nat} {x : Int} {ct : TypeId} {fr : Nat × Nat} (hb : h[b]? = some (.cells #[.int .i64 x] ct fr)) : IntsV h (some ⟨b, 0, none⟩) 1 [x] := IntsV.block (xs := [x]) hb
theorem pn1 {h : Eng.Heap} {o o' : Obj} : ((h.push o).push o')[h.size + 1]? = some o' := by rw [Array.getElem?_push, if_pos (by simp)]
theorem pn0 {h : Eng.Heap} {o o' : Obj} : ((h.push o).push o')[h.size]? = some o := by rw [Array.getElem?_push, if_neg (by simp)]; exact push_new
/-- All are from one number to another one. -/
def inB (lo hi : Int) (xs : List Int) : Bool := xs.all fun x => decide (lo ≤ x) && decide (x ≤ hi)
theorem inB_one {lo hi x : Int} : inB lo hi [x] = decide (lo ≤ x ∧ x ≤ hi) := by simp [inB]
theorem inB_iff {lo hi : Int} {xs : List Int} : inB lo hi xs = true ↔ ∀ x ∈ xs, lo ≤ x ∧ x ≤ hi := by simp [inB]
/-- A want. -/
structure Wn where
  s : Int
  m : Int
  deriving DecidableEq
def wnV (w : Wn) : List Value := [.int .i64 w.s, .int .i64 w.m]
def wsV (ws : List Wn) : List Value := ws.flatMap wnV
theorem wsV_cons (w : Wn) (ws : List Wn) : wsV (w :: ws) = wnV w ++ wsV ws := rfl
theorem wsV_append (ws us : List Wn) : wsV (ws ++ us) = wsV ws ++ wsV us := by simp [wsV]
theorem wsV_length (ws : List Wn) : (wsV ws).length = ws.length * 2 := by
  induction ws with
  | nil => rfl
  | cons e es ih => rw [wsV_cons, List.length_append, ih]; simp [wnV]; omega
theorem wsV_drop : ∀ (es : List Wn) (j : Nat), (wsV es).drop (j * 2) = wsV (es.drop j)
  | es, 0 => by simp
  | [], j + 1 => by simp [wsV]
  | e :: es, j + 1 => by
    have e1 : (j + 1) * 2 = 2 + j * 2 := by omega
    rw [wsV_cons, e1, ← List.drop_drop]
    have : (wnV e ++ wsV es).drop 2 = wsV es := by simp [wnV]
    rw [this, wsV_drop es j]; rfl
theorem wsV_take : ∀ (es : List Wn) (j : Nat), (wsV es).take (j * 2) = wsV (es.take j)
  | es, 0 => by simp [wsV]
  | [], j + 1 => by simp [wsV]
  | e :: es, j + 1 => by
    have e1 : (j + 1) * 2 = 2 + j * 2 := by omega
    rw [wsV_cons, e1, List.take_add]
    have h1 : (wnV e ++ wsV es).take 2 = wnV e := by simp [wnV]
    have h2 : (wnV e ++ wsV es).drop 2 = wsV es := by simp [wnV]
    rw [h1, h2, wsV_take es j]; rfl
theorem wsV_get (es : List Wn) (j : Nat) (hj : j < es.length) : ((wsV es).drop (j * 2)).take 2 = wnV es[j] := by
  have h1 : ((wsV es).drop (j * 2)).take (1 * 2) = wsV ((es.drop j).take 1) := by rw [wsV_drop, wsV_take]
  rw [Nat.one_mul] at h1
  rw [h1, List.drop_eq_getElem_cons hj]
  simp only [List.take_succ_cons, List.take_zero, wsV, List.flatMap_cons, List.flatMap_nil, List.append_nil]
theorem wsV_one {es : List Wn} : ∀ u ∈ wsV es, u.oneCell' = true := by
  intro u hu
  simp only [wsV, List.mem_flatMap, wnV, List.mem_cons, List.not_mem_nil, or_false] at hu
  obtain ⟨e, _, rfl | rfl⟩ := hu <;> rfl
/-- The want with a number. -/
def wAt (ws : List Wn) (i : Nat) : Wn := ws.getD i ⟨0, 0⟩
theorem wAt_eq {ws : List Wn} {i : Nat} (hi : i < ws.length) : wAt ws i = ws[i] := by simp [wAt, List.getD, List.getElem?_eq_getElem hi]
theorem wAt_mem {ws : List Wn} {i : Nat} (hi : i < ws.length) : wAt ws i ∈ ws := by rw [wAt_eq hi]; exact List.getElem_mem hi
theorem rowW {h : Eng.Heap} {a : Option Addr} {ws : List Wn} (hr : Row h a (wsV ws)) {i : Nat} (hi : i < ws.length) : cellsH h (eltP a (i * 2)) 2 = some [.int .i64 (wAt ws i).s, .int .i64 (wAt ws i).m] := by
  have := hr.cells (j := i * 2) (n := 2) (by rw [wsV_length]; omega) (by omega)
  rw [wsV_get ws i hi] at this
  rw [wAt_eq hi]
  exact this
theorem rowW_some {h : Eng.Heap} {a : Option Addr} {ws : List Wn} (hr : Row h a (wsV ws)) {i : Nat} (hi : i < ws.length) : a.isSome = true := hr.isSome (by rw [wsV_length]; omega)
theorem cellW0 {h : Eng.Heap} {a : Option Addr} {ws : List Wn} (hr : Row h a (wsV ws)) {i : Nat} (hi : i < ws.length) : cellH h (eltP a (i * 2)) = some (.int .i64 (wAt ws i).s) := by
  have h1 := hr.cell (j := i * 2) (by rw [wsV_length]; omega)
  have h2 := wsV_get ws i hi
  have h3 : (((wsV ws).drop (i * 2)).take 2)[0]? = some (.int .i64 ws[i].s) := by rw [h2]; rfl
  rw [List.getElem?_take, if_pos (by omega), List.getElem?_drop, List.getElem?_eq_getElem (by rw [wsV_length]; omega)] at h3
  rw [h1, wAt_eq hi]; exact h3
theorem cellW1 {h : Eng.Heap} {a : Option Addr} {ws : List Wn} (hr : Row h a (wsV ws)) {i : Nat} (hi : i < ws.length) : cellH h (eltP a (i * 2 + 1)) = some (.int .i64 (wAt ws i).m) := by
  have h1 := hr.cell (j := i * 2 + 1) (by rw [wsV_length]; omega)
  have h2 := wsV_get ws i hi
  have h3 : (((wsV ws).drop (i * 2)).take 2)[1]? = some (.int .i64 ws[i].m) := by rw [h2]; rfl
  rw [List.getElem?_take, if_pos (by omega), List.getElem?_drop, List.getElem?_eq_getElem (by rw [wsV_length]; omega)] at h3
  rw [h1, wAt_eq hi]; exact h3
theorem faR {h : Eng.Heap} {a : Option Addr} {ws : List Wn} (hr : Row h a (wsV ws)) {i : Nat} (hi : i < ws.length) (k off : Nat) (h' : Eng.Heap) (K : Value → Eng.Heap → Prop) : faW (.pointer (eltP a k)) (some off) h' K = K (.pointer (eltP a (k + off))) h' := by
  rcases hr with h1 | ⟨g, o, cur, ct, fr, h1, _⟩
  · have := wsV_length ws; rw [h1] at this; simp at this; omega
  · rw [h1, eltP_some, eltP_some, faW_at, Nat.add_assoc]
/-- The numbers of a want are as described. -/
def okW (S M : Int) (w : Wn) : Prop := (0 ≤ w.s ∧ w.s < S) ∧ (0 ≤ w.m ∧ w.m < M)
instance (S M : Int) (w : Wn) : Decidable (okW S M w) := by unfold okW; infer_instance
/-- What CheckBook returns. -/
def chk (S M : Int) (ws : List Wn) : Int :=
  if ¬ (1 ≤ S ∧ S ≤ 6) ∨ ¬ (1 ≤ M ∧ M ≤ 6) ∨ 14 < ws.length then 6
  else if ∀ w ∈ ws, okW S M w then 0 else 3
/-- A valid book: shops and moulds as natural numbers. -/
structure Vb (S M : Nat) (ws : List Wn) : Prop where
  s1 : 1 ≤ S
  s2 : S ≤ 6
  m1 : 1 ≤ M
  m2 : M ≤ 6
  n : ws.length ≤ 14
  ok : ∀ w ∈ ws, okW S M w
def shN (ws : List Wn) (i : Nat) : Nat := (wAt ws i).s.toNat
def moN (ws : List Wn) (i : Nat) : Nat := (wAt ws i).m.toNat
theorem chk_ok {S M : Int} {ws : List Wn} (H : chk S M ws = 0) : ∃ s m : Nat, S = s ∧ M = m ∧ Vb s m ws := by
  unfold chk at H
  split at H
  · omega
  split at H
  · rename_i h1 h2
    refine ⟨S.toNat, M.toNat, by omega, by omega, by omega, by omega, by omega, by omega, by omega, fun w hw => ?_⟩
    have := h2 w hw
    have e1 : ((S.toNat : Nat) : Int) = S := by omega
    have e2 : ((M.toNat : Nat) : Int) = M := by omega
    rw [e1, e2]; exact this
  · omega
theorem Vb.chk {S M : Nat} {ws : List Wn} (V : Vb S M ws) : chk S M ws = 0 := by
  have := V.s1; have := V.s2; have := V.m1; have := V.m2; have := V.n
  unfold Go.Proofs.Ytmgkeeefbfefgaa.chk
  rw [if_neg (by omega), if_pos V.ok]
theorem Vb.s {S M : Nat} {ws : List Wn} (V : Vb S M ws) {i : Nat} (hi : i < ws.length) : (wAt ws i).s = (shN ws i : Nat) ∧ shN ws i < S := by
  have h := (V.ok _ (wAt_mem hi)).1
  unfold shN
  omega
theorem Vb.m {S M : Nat} {ws : List Wn} (V : Vb S M ws) {i : Nat} (hi : i < ws.length) : (wAt ws i).m = (moN ws i : Nat) ∧ moN ws i < M := by
  have h := (V.ok _ (wAt_mem hi)).2
  unfold moN
  omega
end Go.Proofs.Ytmgkeeefbfefgaa
