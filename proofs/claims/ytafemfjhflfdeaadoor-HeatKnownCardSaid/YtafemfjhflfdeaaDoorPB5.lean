/- Texts joined by pack.py: lemmas for YtafemfjhflfdeaaDoorKnown. No condition. -/
import Derived.Test.YtafemfjhflfdeaaDoorPB4
import Derived.Laws.RangeString
set_option linter.unusedSimpArgs false
set_option linter.unusedVariables false
set_option linter.defProp false
section
set_option linter.unusedVariables false
set_option linter.unusedSimpArgs false
namespace Go.Eng
open Go
section vrows
variable {P : Program} {h0 : Nat} {h : Heap} {er : Env} {ty : TypeId}
structure OwnV (h0 : Nat) (h : Heap) (el : TypeId) (s : Nat) (a : Option Addr) (len cap : Nat) (vs : List Value) : Prop where
  ln : vs.length = len * s
  ok : (a = none ∧ len = 0 ∧ cap = 0) ∨ ∃ g cur, a = some ⟨g, 0, none⟩ ∧ h0 ≤ g ∧ h[g]? = some (.cells cur el (0, 0)) ∧ cap * s ≤ cur.size ∧ len ≤ cap ∧ cur.toList.take (len * s) = vs
theorem OwnV.nil (h0 : Nat) (h : Heap) (el : TypeId) (s : Nat) : OwnV h0 h el s none 0 0 [] := ⟨by simp, .inl ⟨rfl, rfl, rfl⟩⟩
theorem OwnV.row {el : TypeId} {s : Nat} {a : Option Addr} {len cap : Nat} {vs : List Value} (O : OwnV h0 h el s a len cap vs) : Row h a vs := by
  have hl := O.ln
  rcases O.ok with ⟨rfl, h1, _⟩ | ⟨g, cur, rfl, h1, h2, h3, h4, h5⟩
  · left
    rw [h1, Nat.zero_mul] at hl
    exact List.length_eq_zero_iff.1 hl
  · right
    have : len * s ≤ cap * s := Nat.mul_le_mul_right _ h4
    exact ⟨g, 0, cur, el, (0, 0), rfl, h2, by omega, by rw [List.drop_zero, hl]; exact h5⟩
theorem OwnV.cap {el : TypeId} {s : Nat} {a : Option Addr} {len cap : Nat} {vs : List Value} (O : OwnV h0 h el s a len cap vs) : len ≤ cap := by
  rcases O.ok with ⟨_, h1, h2⟩ | ⟨g, cur, _, _, _, _, h4, _⟩ <;> omega
theorem OwnV.keep {el : TypeId} {s : Nat} {a : Option Addr} {len cap : Nat} {vs : List Value} (O : OwnV h0 h el s a len cap vs) {h' : Heap} (hk : ∀ p, a = some p → h'[p.block]? = h[p.block]?) : OwnV h0 h' el s a len cap vs := by
  refine ⟨O.ln, ?_⟩
  rcases O.ok with h1 | ⟨g, cur, rfl, h1, h2, h3⟩
  · exact .inl h1
  · exact .inr ⟨g, cur, rfl, h1, (hk _ rfl).trans h2, h3⟩
theorem OwnV.lt {el : TypeId} {s : Nat} {a : Option Addr} {len cap : Nat} {vs : List Value} (O : OwnV h0 h el s a len cap vs) {p : Addr} (hp : a = some p) : p.block < h.size ∧ h0 ≤ p.block := by
  rcases O.ok with ⟨h1, _⟩ | ⟨g, cur, h1, h2, h3, h4⟩
  · rw [h1] at hp; cases hp
  · rw [h1] at hp; cases hp; exact ⟨lt_of_get h3, h2⟩
theorem OwnV.ext {el : TypeId} {s : Nat} {a : Option Addr} {len cap : Nat} {vs : List Value} (O : OwnV h0 h el s a len cap vs) {h' : Heap} (x : Ext h h') : OwnV h0 h' el s a len cap vs := O.keep fun p hp => x.old _ (O.lt hp).1
theorem OwnV.upd {el : TypeId} {s : Nat} {a : Option Addr} {len cap b : Nat} {vs : List Value} {h' : Heap} (O : OwnV h0 h el s a len cap vs) (u : Upd h h' b) (hb : b < h0) : OwnV h0 h' el s a len cap vs :=
  O.keep fun p hp => u.old _ (by have := (O.lt hp).2; omega)
theorem OwnV.mono {el : TypeId} {s : Nat} {a : Option Addr} {len cap m' : Nat} {vs : List Value} (O : OwnV h0 h el s a len cap vs) (hm : m' ≤ h0) : OwnV m' h el s a len cap vs := by
  refine ⟨O.ln, ?_⟩
  rcases O.ok with h1 | ⟨g, cur, h1, h2, h3⟩
  · exact .inl h1
  · exact .inr ⟨g, cur, h1, by omega, h3⟩
theorem App.updV {h h' : Heap} {a a' : Option Addr} {el : TypeId} {s len cap : Nat} {vs : List Value} {m c : Nat} {o : Obj} (A : App h h' a a') (O : OwnV m h el s a len cap vs) (hc : h[c]? = some o) (hm : c < m) : h'[c]? = some o :=
  (A.old c (lt_of_get hc) fun p hp => by have := (O.lt hp).2; omega).trans hc
theorem App.extV {h h' h1 : Heap} {a a' : Option Addr} {el : TypeId} {s len cap : Nat} {vs : List Value} {m : Nat} (A : App h h' a a') (O : OwnV m h el s a len cap vs) (x : Ext h1 h) (hm : h1.size ≤ m) : Ext h1 h' :=
  ⟨Nat.le_trans x.size A.size, fun c hc => (A.old c (Nat.lt_of_lt_of_le hc x.size) fun p hp => by have := (O.lt hp).2; omega).trans (x.old c hc)⟩
theorem firstV {w : World} {b : Option Addr} {m c k s : Nat} {vs : List Value} (H : Row w.heap b vs) (hl : vs.length = m * s) (hk : k ≤ m) : (Builtin.firstCells s k (.slice b m c)).run P w = .ok (vs.take (k * s)).toArray w := by
  have hks : k * s ≤ m * s := Nat.mul_le_mul_right _ hk
  cases b with
  | none =>
    rcases H with h1 | ⟨g, off, cur, ct, fr, h1, _⟩
    · simp [Builtin.firstCells, h1]
    · cases h1
  | some a =>
    rcases H with h1 | ⟨g, off, cur, ct, fr, h1, h2, h3, h4⟩
    · subst h1
      have h0 : k * s = 0 := by simp at hl; omega
      have := run_firstCells_some (P := P) w s k a m c [] (by simp [h0]) (by simp)
      simpa using this
    · cases h1
      refine run_firstCells_some w s k ⟨g, off, none⟩ m c _ (by rw [List.length_take]; omega) fun j u hu => ?_
      rw [← h4, List.getElem?_take] at hu
      split at hu
      · rw [List.getElem?_take] at hu
        split at hu
        · rw [List.getElem?_drop] at hu
          exact Go.Run.cell_row h2 (by simpa using hu)
        · cases hu
      · cases hu
theorem row_src {ats : Array TypeId} {t2 e2 : TypeId} {s : Nat} (h1 : ats[1]? = some t2) (hu : P.underlying t2 = some (.slice e2)) {b : Option Addr} {m c : Nat} {vs : List Value} (H : Row h b vs) (hl : vs.length = m * s) : Go.Run.Src P ats h s m (.slice b m c) vs := by
  refine ⟨⟨t2, _, h1, hu, .inl ⟨e2, rfl⟩⟩, fun w _ => by simp [Builtin.lenOf], fun w hw => ?_, fun _ n hn w hw => ?_⟩
  · subst hw
    have := firstV (P := P) (c := c) H hl (Nat.le_refl m)
    rwa [List.take_of_length_le (by omega)] at this
  · subst hw
    exact firstV (P := P) (c := c) H hl hn
theorem zeroCells_size (z : Array Value) (n : Nat) : (Builtin.zeroCells z n).size = n * z.size := by simp [Builtin.zeroCells]
theorem append_vals {t t2 el e2 : TypeId} {i : TypeInfo} {z : Value} {s : Nat} (hu : P.underlying t = some (.slice el)) (hu2 : P.underlying t2 = some (.slice e2)) (hi : P.info? el = some i) (hsz : i.size = s) (hz : i.zero = some z) (hzs : z.cells.size = s)
    {x y : Operand} {a b : Option Addr} {len cap m c : Nat} {xs ys : List Value} {K : Value → Heap → Prop} (hx : ev er x = .slice a len cap) (hy : ev er y = .slice b m c) (O : OwnV h0 h el s a len cap xs) (h0h : h0 ≤ h.size) (I : Row h b ys) (hyl : ys.length = m * s) (h1 : ∀ u ∈ ys, u.oneCell' = true) (hb : len + m ≤ 1000000) (hby : (len + m) * i.bytes ≤ 1000000)
    (H : ∀ a' cap' h', OwnV h0 h' el s a' (len + m) cap' (xs ++ ys) → App h h' a a' → K (.slice a' (len + m) cap') h') : opSem P (.call ⟨.builtin .append, #[x, y], #[t, t2]⟩) ty er h K := by
  unfold opSem
  refine And.intro rfl fun w hw => ?_
  subst hw
  have hxl := O.ln
  have hlen : (xs ++ ys).length = (len + m) * s := by rw [List.length_append, O.ln, hyl, Nat.add_mul]
  have hs := row_src (P := P) (ats := #[t, t2]) (c := c) rfl hu2 I hyl
  have hargs : #[x, y].map (ev er) = #[.slice a len cap, .slice b m c] := by simp [hx, hy]
  have key : ∀ v w', (Builtin.append_ #[t, t2] ty #[.slice a len cap, .slice b m c]).run P w = .ok v w' → Rest w w' → K v w'.heap →
      semPost P w K ((execOp (ev er) { dst := none, op := .call ⟨.builtin .append, #[x, y], #[t, t2]⟩, type := ty, pos := "", after := #[], guard := none }).run P w) := by
    intro v w' h1 h2 h3
    have : (execOp (ev er) { dst := none, op := .call ⟨.builtin .append, #[x, y], #[t, t2]⟩, type := ty, pos := "", after := #[], guard := none }).run P w = .ok (.value v) w' := by
      simp only [execOp, resolve, invoke, builtin, Sem.run_bind, Sem.run_pure, Result.andThen_ok, hargs, h1]
    rw [this]
    exact ⟨h3, h2⟩
  have grow : cap < len + m → semPost P w K ((execOp (ev er) { dst := none, op := .call ⟨.builtin .append, #[x, y], #[t, t2]⟩, type := ty, pos := "", after := #[], guard := none }).run P w) := by
    intro hgr
    have g1 := Go.Run.ap_grow (P := P) (ty := ty) (ats := #[t, t2]) (z := z) (sLen := len) (sCap := cap) (b := a) (olds := xs) rfl hu hi hz w (by rw [hsz]; exact hs)
      (fun w' hw' => by
        have hI := O.row
        rw [← hw'] at hI
        have := firstV (P := P) (c := cap) hI O.ln (Nat.le_refl len)
        rw [List.take_of_length_le (by omega)] at this
        rw [hsz]
        exact this) hgr (by omega) (by omega)
    have hge := grownCap_ge w (len + m) cap el
    refine key _ _ g1 ⟨rfl, rfl, rfl⟩ (H _ _ _ ⟨hlen, .inr ⟨w.heap.size, _, rfl, h0h, push_new, ?_, hge, ?_⟩⟩ ⟨by simp, fun c hc _ => ?_, fun p hp => ?_⟩)
    · have e1 : (len + m) * s + (grownCap w (len + m) cap el - (len + m)) * s = grownCap w (len + m) cap el * s := by rw [← Nat.add_mul]; congr 1; omega
      simp only [List.size_toArray, List.length_append, Array.length_toList, zeroCells_size, hzs, hxl, hyl, Nat.add_mul] at e1 ⊢
      omega
    · rw [List.toList_toArray, List.take_append_of_le_length (by omega), List.take_of_length_le (by omega)]
    · show (w.heap.push _)[c]? = _
      rw [push_get, if_neg (by omega)]
    · cases hp
      exact .inr (Nat.le_refl _)
  rcases O.ok with ⟨rfl, rfl, rfl⟩ | ⟨g, cur, rfl, q1, q2, q3, q4, q5⟩
  · by_cases hm : m = 0
    · subst hm
      have hy0 : ys = [] := List.length_eq_zero_iff.1 (by simpa using hyl)
      have hx0 : xs = [] := List.length_eq_zero_iff.1 (by simpa using hxl)
      have g1 := Go.Run.ap_none (P := P) (ty := ty) (ats := #[t, t2]) rfl hu hi w (x := .slice b 0 c) (news := ys) (by rw [hsz]; exact hs)
      exact key _ _ g1 (Rest.refl w) (H none 0 w.heap ⟨by rw [hx0, hy0]; simp, .inl ⟨rfl, rfl, rfl⟩⟩ ⟨Nat.le_refl _, fun _ _ _ => rfl, fun p hp => by cases hp⟩)
    · exact grow (by omega)
  · by_cases hr : len + m ≤ cap
    · have hms : (len + m) * s ≤ cap * s := Nat.mul_le_mul_right _ hr
      rw [Nat.add_mul] at hms
      have g1 := Go.Run.ap_room (P := P) (ty := ty) (ats := #[t, t2]) (sLen := len) (sCap := cap) (off := 0) rfl hu hi w (by rw [hsz]; exact hs) q2 h1 hr (by rw [hsz]; omega)
      refine key _ _ g1 ⟨rfl, rfl, rfl⟩ (H _ _ _ ⟨hlen, .inr ⟨g, _, rfl, q1, (setRow_heap q2 _).1, ?_, hr, ?_⟩⟩ ⟨by simp [World.setRow], fun c hc hne => ?_, fun p hp => .inl ⟨p, hp, rfl⟩⟩)
      · simp [splice, hsz]; omega
      · rw [List.toList_toArray, hsz, Nat.zero_add, splice, q5]
        rw [List.take_append_of_le_length (by omega), List.take_of_length_le (by omega)]
      · have : g ≠ c := hne _ rfl
        simp [World.setRow, Array.getElem?_modify, this]
    · exact grow (by omega)
theorem append_valsT {t t2 el e2 : TypeId} {z : Value} {s : Nat} (hu : P.underlying t = some (.slice el)) (hu2 : P.underlying t2 = some (.slice e2)) (hi : (P.info? el).isSome = true) (hsz : szT P el = s) (hz : zeroT P el = some z) (hzs : z.cells.size = s)
    {x y : Operand} {a b : Option Addr} {len cap m c : Nat} {xs ys : List Value} {K : Value → Heap → Prop} (hx : ev er x = .slice a len cap) (hy : ev er y = .slice b m c) (O : OwnV h0 h el s a len cap xs) (h0h : h0 ≤ h.size) (I : Row h b ys) (hyl : ys.length = m * s) (h1 : ∀ u ∈ ys, u.oneCell' = true) (hb : len + m ≤ 1000000) (hby : (len + m) * bytesT P el ≤ 1000000)
    (H : ∀ a' cap' h', OwnV h0 h' el s a' (len + m) cap' (xs ++ ys) → App h h' a a' → K (.slice a' (len + m) cap') h') : opSem P (.call ⟨.builtin .append, #[x, y], #[t, t2]⟩) ty er h K := by
  obtain ⟨i, hi⟩ := Option.isSome_iff_exists.1 hi
  refine append_vals hu hu2 hi (by simpa [szT, hi] using hsz) (z := z) (by simpa [zeroT, hi] using hz) hzs hx hy O h0h I hyl h1 hb (by simpa [bytesT, hi] using hby) H
end vrows
theorem opW_entry {P : Program} {x : Operand} {ty : TypeId} {e : Env} {h : Heap} {K : Value → Heap → Prop} : opW P (.entry x) ty e h K = opSem P (.entry x) ty e h K := by
  unfold opW pvW alcW
  rfl
section steps
variable {l : Option Nat} {P : Program} {e : Env} {d : List Deferred} {h : Heap} {k : Cont}
end steps
section maps
open Go.Run
variable {P : Program} {h : Heap} {er : Env} {ty : TypeId} {α : Type}
def entM (kv : α → Value) (x : α × Value × Nat) : MapEntry := { key := kv x.1, val := x.2.1, born := x.2.2 }
theorem map_erase {kv : α → Value} : ∀ (es : List (α × Value × Nat)) (j : Nat), (es.map (entM kv)).eraseIdx j = (es.eraseIdx j).map (entM kv)
  | [], j => by simp
  | x :: r, 0 => by simp
  | x :: r, j + 1 => by simp [map_erase r j]
structure MapV (kv : α → Value) (h : Heap) (b : Nat) (es : List (α × Value × Nat)) (c : Nat) : Prop where
  obj : h[b]? = some (.map (es.map (entM kv)).toArray c)
  born : (es.map (·.2.2)).Pairwise (· < ·)
  lt : ∀ x ∈ es, x.2.2 < c
theorem MapV.empty {kv : α → Value} (h : Heap) : MapV kv (h.push (.map #[] 0)) h.size [] 0 := ⟨by simp, by simp, by simp⟩
theorem MapV.keep {kv : α → Value} {b c : Nat} {es : List (α × Value × Nat)} {h' : Heap} (M : MapV kv h b es c) (hk : h'[b]? = h[b]?) : MapV kv h' b es c := ⟨hk.trans M.obj, M.born, M.lt⟩
theorem MapV.ext {kv : α → Value} {b c : Nat} {es : List (α × Value × Nat)} {h' : Heap} (M : MapV kv h b es c) (x : Ext h h') : MapV kv h' b es c := M.keep (x.old _ (lt_of_get M.obj))
theorem set_upd {b : Nat} {o o' : Obj} (hb : h[b]? = some o) : (h.setIfInBounds b o')[b]? = some o' ∧ Upd h (h.setIfInBounds b o') b := by
  have hlt := lt_of_get hb
  exact ⟨by simp [Array.getElem?_setIfInBounds, hlt], by simp, fun b' hb' => Array.getElem?_setIfInBounds_ne (Ne.symm hb')⟩
theorem map_rangeT {u kt vt : TypeId} {kv : α → Value} (hu : P.underlying u = some (.map kt vt)) {b c : Nat} {es : List (α × Value × Nat)} (M : MapV kv h b es c) {x : Operand} {Q : Value → Heap → Prop} (hx : ev er x = .map (some b))
    (H : Q (.pointer (some ⟨h.size, 0, none⟩)) (h.push (.mapIter (some b) c #[] c))) : opSem P (.range u x) ty er h Q := by
  refine opSem_value rfl (.pointer (some ⟨h.size, 0, none⟩)) (h.push (.mapIter (some b) c #[] c)) H fun w hw => ?_
  subst hw
  have g1 := MapKept.run_getObj_map (P := P) M.obj
  exact ⟨{ w with heap := w.heap.push (.mapIter (some b) c #[] c) }, by simp [execOp, Instr.range, hx, run_underlying hu, g1], rfl, rfl, rfl, rfl⟩
theorem left_map {kv : α → Value} (es : List (α × Value × Nat)) (seen : Array Nat) : (leftOf (es.map (entM kv)).toArray seen).toList = (es.filter fun x => !seen.contains x.2.2).map (entM kv) := by
  unfold leftOf
  rw [Array.toList_filter, List.toList_toArray, List.filter_map]
  rfl
theorem map_nextT {kv : α → Value} {b c r since c0 : Nat} {seen : Array Nat} {es : List (α × Value × Nat)} (M : MapV kv h b es c) (hr : h[r]? = some (.mapIter (some b) since seen c0)) (hold : ∀ x ∈ es, x.2.2 < since) (hsc : since ≤ c0)
    {x : Operand} {Q : Value → Heap → Prop} (hx : ev er x = .pointer (some ⟨r, 0, none⟩)) (H0 : (∀ x ∈ es, seen.contains x.2.2 = true) → Q (.tuple #[.bool false]) h)
    (H1 : ∀ e ∈ es, seen.contains e.2.2 = false → ∀ h', h'[r]? = some (.mapIter (some b) since (seen.push e.2.2) c) → Upd h h' r → Q (.tuple #[.bool true, kv e.1, e.2.1]) h') : opSem P (.next x false) ty er h Q := by
  unfold opSem
  refine And.intro rfl fun w hw => ?_
  have M1 := M.obj
  rw [← hw] at M1 hr
  rcases run_next_at (P := P) w ty r b since c0 seen _ c hr M1 (fun y hy => by
    rw [List.toList_toArray] at hy
    obtain ⟨q, hq, rfl⟩ := List.mem_map.1 hy
    exact hold q hq) hsc with ⟨h1, h2⟩ | ⟨e, he, w1, hw1, hrun⟩
  · have : (execOp (ev er) { dst := none, op := .next x false, type := ty, pos := "", after := #[], guard := none }).run P w = .ok (.value (.tuple #[.bool false])) w := by
      simp [execOp, hx, h2]
    rw [this]
    refine ⟨?_, Rest.refl w⟩
    rw [hw]
    refine H0 fun y hy => ?_
    rw [← Array.length_toList, left_map] at h1
    have h1 := List.length_eq_zero_iff.1 h1
    rw [List.map_eq_nil_iff, List.filter_eq_nil_iff] at h1
    have := h1 y hy
    simpa using this
  · rw [left_map] at he
    obtain ⟨q, hq, rfl⟩ := List.mem_map.1 he
    have hq := List.mem_filter.1 hq
    have : (execOp (ev er) { dst := none, op := .next x false, type := ty, pos := "", after := #[], guard := none }).run P w = .ok (.value (.tuple #[.bool true, kv q.1, q.2.1])) (ChangeMaps.setBlock w1 r (.mapIter (some b) since (seen.push q.2.2) c)) := by
      simp only [execOp, hx, Sem.run_bind, hrun, Result.andThen_ok, Sem.run_pure, entM]
    rw [this]
    have hs := set_upd (o' := .mapIter (some b) since (seen.push q.2.2) c) hr
    refine ⟨H1 q hq.1 (by simpa using hq.2) _ ?_ ?_, ?_⟩
    · rcases hw1 with rfl | rfl <;> exact hs.1
    · rw [← hw]
      rcases hw1 with rfl | rfl <;> exact hs.2
    · rcases hw1 with rfl | rfl <;> exact ⟨rfl, rfl, rfl⟩
theorem map_entryT {kv : α → Value} {b c r since : Nat} {seen : Array Nat} {es : List (α × Value × Nat)} (M : MapV kv h b es c) {e : α × Value × Nat} (he : e ∈ es) (hr : h[r]? = some (.mapIter (some b) since (seen.push e.2.2) c))
    {x : Operand} {Q : Value → Heap → Prop} (hx : ev er x = .pointer (some ⟨r, 0, none⟩)) (H : Q (.tuple #[kv e.1, e.2.1]) h) : opSem P (.entry x) ty er h Q := by
  refine opSem_pure rfl _ H fun w hw => ?_
  have M1 := M.obj
  rw [← hw] at M1 hr
  have := run_entry_at (P := P) w r b since seen _ c (entM kv e) hr M1 (by rw [List.toList_toArray]; exact List.mem_map.2 ⟨e, he, rfl⟩) (by
    rw [List.toList_toArray, List.map_map]
    exact M.born.imp (fun h => Nat.ne_of_lt h))
  simp only [execOp, hx, Sem.run_bind, this, Result.andThen_ok, Sem.run_pure, entM]
variable [DecidableEq α]
def findA (a : α) : List (α × Value × Nat) → Nat → Option (Nat × Value)
  | [], _ => none
  | x :: r, i => if a = x.1 then some (i, x.2.1) else findA a r (i + 1)
def getA (a : α) : List (α × Value × Nat) → Option Value
  | [] => none
  | x :: r => if a = x.1 then some x.2.1 else getA a r
def putA (a : α) (v : Value) (c : Nat) : List (α × Value × Nat) → List (α × Value × Nat)
  | [] => [(a, v, c)]
  | x :: r => if a = x.1 then (a, v, x.2.2) :: r else x :: putA a v c r
def delA (a : α) : List (α × Value × Nat) → List (α × Value × Nat)
  | [] => []
  | x :: r => if a = x.1 then r else x :: delA a r
theorem findA_none {a : α} : ∀ {es : List (α × Value × Nat)} {i : Nat}, findA a es i = none → getA a es = none ∧ (∀ v c, putA a v c es = es ++ [(a, v, c)]) ∧ delA a es = es
  | [], i, _ => ⟨rfl, fun _ _ => rfl, rfl⟩
  | x :: r, i, h => by
    unfold findA at h
    split at h
    · cases h
    · rename_i hx
      obtain ⟨h1, h2, h3⟩ := findA_none h
      exact ⟨by simp [getA, hx, h1], fun v c => by simp [putA, hx, h2], by simp [delA, hx, h3]⟩
theorem findA_some {a : α} : ∀ {es : List (α × Value × Nat)} {i j : Nat} {u : Value}, findA a es i = some (j, u) →
    ∃ k x, j = i + k ∧ es[k]? = some x ∧ x.1 = a ∧ x.2.1 = u ∧ getA a es = some u ∧ (∀ v c, putA a v c es = es.modify k (fun x => (a, v, x.2.2))) ∧ delA a es = es.eraseIdx k
  | [], i, j, u, h => by cases h
  | x :: r, i, j, u, h => by
    unfold findA at h
    split at h
    · rename_i hx
      cases h
      exact ⟨0, x, rfl, rfl, hx.symm, rfl, by simp [getA, hx], fun v c => by simp [putA, hx], by simp [delA, hx]⟩
    · rename_i hx
      obtain ⟨k, y, h1, h2, h3, h4, h5, h6, h7⟩ := findA_some h
      exact ⟨k + 1, y, by omega, by simpa using h2, h3, h4, by simp [getA, hx, h5], fun v c => by simp [putA, hx, h6], by simp [delA, hx, h7]⟩
structure Keys (P : Program) (kt : TypeId) (kv : α → Value) : Prop where
  find : ∀ (a : α) (es : List (α × Value × Nat)) (W : World), (Instr.findKey kt (kv a) (es.map (entM kv))).run P W = .ok (findA a es 0) W
  check : ∀ (a : α) (em : Bool) (W : World), (Instr.checkKey em 10000 kt (kv a)).run P W = .ok () W
  stays : ∀ (a : α) (W : World), (Instr.keyThatStays (kv a) (kv a)).run P W = .ok (kv a) W
def clkA (a : α) (es : List (α × Value × Nat)) (c : Nat) : Nat := if (getA a es).isSome then c else c + 1
theorem put_born {a : α} {v : Value} {c : Nat} : ∀ {es : List (α × Value × Nat)}, (putA a v c es).map (·.2.2) = es.map (·.2.2) ++ (if (getA a es).isSome then [] else [c])
  | [] => rfl
  | x :: r => by
    by_cases hx : a = x.1
    · simp [putA, getA, hx]
    · simp [putA, getA, hx, put_born (es := r)]
theorem del_sub {a : α} : ∀ {es : List (α × Value × Nat)}, (delA a es).Sublist es
  | [] => List.Sublist.refl _
  | x :: r => by
    by_cases hx : a = x.1
    · simp [delA, hx]
    · simp only [delA, hx, if_false]; exact del_sub.cons_cons x
theorem MapV.put {kv : α → Value} {b c : Nat} {es : List (α × Value × Nat)} {h' : Heap} {a : α} {v : Value} (M : MapV kv h b es c) (ho : h'[b]? = some (.map ((putA a v c es).map (entM kv)).toArray (clkA a es c))) : MapV kv h' b (putA a v c es) (clkA a es c) := by
  refine ⟨ho, ?_, fun x hx => ?_⟩
  · rw [put_born]
    split
    · simpa using M.born
    · rw [List.pairwise_append]
      refine ⟨M.born, by simp, fun y hy z hz => ?_⟩
      obtain ⟨q, hq, rfl⟩ := List.mem_map.1 hy
      have := M.lt q hq
      simp at hz
      omega
  · have h1 : x.2.2 ∈ (putA a v c es).map (·.2.2) := List.mem_map.2 ⟨x, hx, rfl⟩
    rw [put_born] at h1
    unfold clkA
    rcases List.mem_append.1 h1 with h1 | h1
    · obtain ⟨q, hq, hqe⟩ := List.mem_map.1 h1
      have := M.lt q hq
      split <;> omega
    · split at h1
      · cases h1
      · rename_i hn
        simp at h1
        rw [if_neg hn]
        omega
theorem MapV.del {kv : α → Value} {b c : Nat} {es : List (α × Value × Nat)} {h' : Heap} {a : α} (M : MapV kv h b es c) (ho : h'[b]? = some (.map ((delA a es).map (entM kv)).toArray c)) : MapV kv h' b (delA a es) c :=
  ⟨ho, M.born.sublist (del_sub.map _), fun x hx => M.lt x (del_sub.subset hx)⟩
theorem map_putT {u kt vt : TypeId} {kv : α → Value} (hu : P.underlying u = some (.map kt vt)) (K : Keys P kt kv) {b c : Nat} {es : List (α × Value × Nat)} (M : MapV kv h b es c) {a : α} {v : Value}
    {x k y : Operand} {Q : Value → Heap → Prop} (hx : ev er x = .map (some b)) (hk : ev er k = kv a) (hy : ev er y = v)
    (H : ∀ h', MapV kv h' b (putA a v c es) (clkA a es c) → Upd h h' b → Q undef h') : opSem P (.mapUpdate u x k y) ty er h Q := by
  have hs := set_upd (o' := .map ((putA a v c es).map (entM kv)).toArray (clkA a es c)) M.obj
  refine opSem_skip rfl (h.setIfInBounds b (.map ((putA a v c es).map (entM kv)).toArray (clkA a es c))) (H _ (M.put hs.1) hs.2) fun W hW => ⟨{ W with heap := W.heap.setIfInBounds b (.map ((putA a v c es).map (entM kv)).toArray (clkA a es c)) }, ?_, by rw [hW], rfl, rfl, rfl⟩
  have M1 := M.obj
  rw [← hW] at M1
  have c1 := K.check a false W
  have f1 := K.find a es W
  have g1 := MapKept.run_getObj_map (P := P) M1
  have g2 := MapKept.run_setObj_map (P := P) (.map ((putA a v c es).map (entM kv)).toArray (clkA a es c)) M1
  cases hf : findA a es 0 with
  | none =>
    obtain ⟨q1, q2, _⟩ := findA_none hf
    have e1 : ((es.map (entM kv)).toArray.push { key := kv a, val := v, born := c }) = ((putA a v c es).map (entM kv)).toArray := by simp [q2, entM]
    have e2 : clkA a es c = c + 1 := by simp [clkA, q1]
    rw [hf] at f1
    rw [e2] at g2 ⊢
    simp only [execOp, Instr.mapUpdate, hx, hk, hy, Sem.run_bind, run_underlying hu, Result.andThen_ok, g1, c1, List.toList_toArray, f1, e1, g2, Sem.run_pure]
  | some r =>
    obtain ⟨j, u0⟩ := r
    obtain ⟨k0, x0, h1, h2, h3, h4, h5, h6, _⟩ := findA_some hf
    have h1 : j = k0 := by omega
    subst h1
    have e1 : ((es.map (entM kv)).toArray.modify j fun e => { e with key := kv a, val := v }) = ((putA a v c es).map (entM kv)).toArray := by
      apply Array.toList_inj.1
      rw [modify_toList, h6]
      apply List.ext_getElem?
      intro i
      simp only [List.toList_toArray, List.getElem?_modify, List.getElem?_map, Option.map_map]
      split
      · cases es[i]? <;> simp [entM]
      · cases es[i]? <;> simp [entM]
    have e2 : clkA a es c = c := by simp [clkA, h5]
    have e3 : ((es.map (entM kv)).toArray[j]?.map (·.key)).getD (kv a) = kv a := by simp [h2, entM, h3]
    have st := K.stays a W
    rw [hf] at f1
    rw [e2] at g2 ⊢
    simp only [execOp, Instr.mapUpdate, hx, hk, hy, Sem.run_bind, run_underlying hu, Result.andThen_ok, g1, c1, List.toList_toArray, f1, e3, st, e1, g2, Sem.run_pure]
theorem map_delT {u kt vt : TypeId} {kv : α → Value} (hu : P.underlying u = some (.map kt vt)) (K : Keys P kt kv) {b c : Nat} {es : List (α × Value × Nat)} (M : MapV kv h b es c) {a : α} {t2 : TypeId}
    {x k : Operand} {Q : Value → Heap → Prop} (hx : ev er x = .map (some b)) (hk : ev er k = kv a)
    (H : ∀ h', MapV kv h' b (delA a es) c → Upd h h' b → Q (.tuple #[]) h') : opSem P (.call ⟨.builtin .delete, #[x, k], #[u, t2]⟩) ty er h Q := by
  have hs := set_upd (o' := .map ((delA a es).map (entM kv)).toArray c) M.obj
  refine opSem_value rfl (.tuple #[]) (h.setIfInBounds b (.map ((delA a es).map (entM kv)).toArray c)) (H _ (M.del hs.1) hs.2) fun W hW => ⟨{ W with heap := W.heap.setIfInBounds b (.map ((delA a es).map (entM kv)).toArray c) }, ?_, by rw [hW], rfl, rfl, rfl⟩
  have M1 := M.obj
  rw [← hW] at M1
  have c1 := fun em => K.check a em W
  have f1 := K.find a es W
  have g1 := MapKept.run_getObj_map (P := P) M1
  have g2 := MapKept.run_setObj_map (P := P) (.map ((delA a es).map (entM kv)).toArray c) M1
  have hargs : #[x, k].map (ev er) = #[.map (some b), kv a] := by simp [hx, hk]
  have key : (Builtin.delete_ #[u, t2] ty #[.map (some b), kv a]).run P W = .ok (.tuple #[]) { W with heap := W.heap.setIfInBounds b (.map ((delA a es).map (entM kv)).toArray c) } := by
    cases hf : findA a es 0 with
    | none =>
      obtain ⟨_, _, q3⟩ := findA_none hf
      rw [hf] at f1
      rw [q3] at g2 ⊢
      simp [Builtin.delete_, run_underlying hu, g1, c1, f1, g2]
    | some r =>
      obtain ⟨j, u0⟩ := r
      obtain ⟨k0, x0, h1, h2, h3, h4, h5, _, h7⟩ := findA_some hf
      have h1 : j = k0 := by omega
      subst h1
      have e1 : ((es.map (entM kv)).toArray.eraseIdxIfInBounds j) = ((delA a es).map (entM kv)).toArray := by
        apply Array.toList_inj.1
        rw [erase_toList, h7]
        exact map_erase es j
      rw [hf] at f1
      rw [← e1] at g2 ⊢
      simp only [List.eraseIdxIfInBounds_toArray] at g2 ⊢
      simp [Builtin.delete_, run_underlying hu, g1, c1, f1, g2]
  simp only [execOp, resolve, invoke, builtin, Sem.run_bind, Sem.run_pure, Result.andThen_ok, hargs, key]
theorem map_getT {u kt vt : TypeId} {kv : α → Value} {z : Value} (hu : P.underlying u = some (.map kt vt)) (hz : zeroT P vt = some z) (K : Keys P kt kv) {b c : Nat} {es : List (α × Value × Nat)} (M : MapV kv h b es c) {a : α} {ok : Bool}
    {x k : Operand} {Q : Value → Heap → Prop} (hx : ev er x = .map (some b)) (hk : ev er k = kv a)
    (H : Q (if ok then .tuple #[(getA a es).getD z, .bool (getA a es).isSome] else (getA a es).getD z) h) : opSem P (.lookup u x k ok) ty er h Q := by
  refine opSem_pure rfl _ H fun W hW => ?_
  have M1 := M.obj
  rw [← hW] at M1
  have c1 := fun em => K.check a em W
  have f1 := K.find a es W
  have g1 := MapKept.run_getObj_map (P := P) M1
  have hz' : (zeroValue vt).run P W = .ok z W := by
    unfold zeroT at hz
    cases hj : P.info? vt with
    | none => simp [hj] at hz
    | some i => simp only [hj, Option.bind_some] at hz; simp [zeroValue, typeInfo, hj, hz]
  cases hf : findA a es 0 with
  | none =>
    obtain ⟨q1, _, _⟩ := findA_none hf
    rw [hf] at f1
    rw [q1]
    cases ok <;> simp [execOp, Instr.lookup, hx, hk, run_underlying hu, g1, c1, f1, hz', Result.andThen]
  | some r =>
    obtain ⟨j, u0⟩ := r
    obtain ⟨k0, x0, h1, h2, h3, h4, h5, _, h7⟩ := findA_some hf
    rw [hf] at f1
    rw [h5]
    cases ok <;> simp [execOp, Instr.lookup, hx, hk, run_underlying hu, g1, c1, f1, Result.andThen]
end maps
end Go.Eng
end
section
set_option linter.unusedVariables false
set_option linter.unusedSimpArgs false
namespace Go.Eng
open Go
attribute [local semireducible] opSem opQS CallsW setD WP
section strs
variable {P : Program} {er : Env} {h : Heap} {ty : TypeId}
theorem str_rangeT {u : TypeId} (hu : P.underlying u = some .string) {s : ByteArray} {x : Operand} {Q : Value → Heap → Prop} (hx : ev er x = .string s)
    (H : Q (.pointer (some ⟨h.size, 0, none⟩)) (h.push (.stringIter s 0))) : opSem P (.range u x) ty er h Q := by
  refine opSem_value rfl (.pointer (some ⟨h.size, 0, none⟩)) (h.push (.stringIter s 0)) H fun w hw => ?_
  subst hw
  exact ⟨{ w with heap := w.heap.push (.stringIter s 0) }, by simp [execOp, Instr.range, hx, run_underlying hu], rfl, rfl, rfl, rfl⟩
theorem str_next_end {s : ByteArray} {r pos : Nat} {x : Operand} {Q : Value → Heap → Prop} (hx : ev er x = .pointer (some ⟨r, 0, none⟩)) (hr : h[r]? = some (.stringIter s pos)) (hp : s.size ≤ pos)
    (H : Q (.tuple #[.bool false]) h) : opSem P (.next x true) ty er h Q := by
  refine opSem_pure rfl _ H fun w hw => ?_
  subst hw
  have hb : ¬ pos < s.size := by omega
  simp [execOp, Instr.next, hx, getObj, Sem.run, hr, Result.andThen, hb]
theorem str_next_one {s : ByteArray} {r pos : Nat} {x : Operand} {Q : Value → Heap → Prop} (hx : ev er x = .pointer (some ⟨r, 0, none⟩)) (hr : h[r]? = some (.stringIter s pos)) (hp : pos < s.size) (ha : (s.data.getD pos 0).toNat < 128)
    (H : ∀ h', h'[r]? = some (.stringIter s (pos + 1)) → Upd h h' r → Q (.tuple #[.bool true, .int .i64 pos, .int .i32 (s.data.getD pos 0).toNat]) h') : opSem P (.next x true) ty er h Q := by
  have hs := set_upd (o' := .stringIter s (pos + 1)) hr
  have hget : s[pos]'hp = s.data.getD pos 0 := by
    have hp' : pos < s.data.size := hp
    rw [Array.getD_eq_getD_getElem?, Array.getElem?_eq_getElem hp', Option.getD_some]; rfl
  have hdec := decode_ascii s pos hp (by rw [hget]; exact ha)
  rw [hget] at hdec
  refine opSem_value rfl (.tuple #[.bool true, goInt pos, .int .i32 (s.data.getD pos 0).toNat]) (h.setIfInBounds r (.stringIter s (pos + 1))) (H _ hs.1 hs.2) fun w hw => ?_
  subst hw
  refine ⟨{ w with heap := w.heap.setIfInBounds r (.stringIter s (pos + 1)) }, ?_, rfl, rfl, rfl, rfl⟩
  simp [execOp, Instr.next, hx, getObj, setObj, Sem.run, hr, Result.andThen, hp, hdec]
end strs
end Go.Eng
end
section
namespace Go.Proofs.YtafemfjhflfdeaaDoor
open Go Go.Proofs Go.Eng Tab
set_option maxRecDepth 100000
set_option linter.unusedSimpArgs false
set_option linter.unusedVariables false
set_option maxHeartbeats 2000000
set_option linter.defProp false
def H5Fs81 := (And.intro (And.intro (And.intro @agg3 @fo112_0) (And.intro @fo24_2 @fo24_3)) (And.intro (And.intro @fo84_0 @fo84_1) (And.intro @inf3 @sz3)))
def H5Fs82 := (And.intro (And.intro (And.intro (And.intro @agg22 @agg3) (And.intro @agg84 @by3)) (And.intro (And.intro @fo112_0 @fo24_1) (And.intro @fo84_0 (And.intro @fo84_1 @fps84_0)))) (And.intro (And.intro (And.intro @fps84_1 @inf22) (And.intro @inf3 (And.intro @inf84 @okf84))) (And.intro (And.intro @sz22 @sz3) (And.intro @sz84 (And.intro @zero84 @Tryd.underlying22)))))
def H5Fs83 := (And.intro (And.intro (And.intro (And.intro @agg22 @agg3) (And.intro @agg84 @by3)) (And.intro (And.intro @fo112_0 @fo24_0) (And.intro @fo84_0 (And.intro @fo84_1 @fps84_0)))) (And.intro (And.intro (And.intro @fps84_1 @inf22) (And.intro @inf3 (And.intro @inf84 @okf84))) (And.intro (And.intro @sz22 @sz3) (And.intro @sz84 (And.intro @zero84 @Tryd.underlying22)))))
def MV.ov (m : MV) : OV := ⟨m.casts.length, fun i => (m.casts.getD i 0).toNat, fun i => (m.waits.getD i 0).toNat, m.lo.toNat, m.hi.toNat⟩
theorem inB_at {lo hi : Int} {xs : List Int} (h : inB lo hi xs = true) {i : Nat} (hi' : i < xs.length) : lo ≤ xs.getD i 0 ∧ xs.getD i 0 ≤ hi := by
  simp only [inB, List.all_eq_true, Bool.and_eq_true, decide_eq_true_eq] at h
  have := h xs[i] (List.getElem_mem hi')
  simpa [List.getD, List.getElem?_eq_getElem hi'] using this
theorem sorted_mono {xs : List Int} (h : sortedTo xs 0) : ∀ (i j : Nat), i ≤ j → j < xs.length → xs.getD i 0 ≤ xs.getD j 0 := by
  intro i j hij hj
  induction j with
  | zero => rw [Nat.le_zero.1 hij]; exact Int.le_refl _
  | succ j ih =>
    by_cases h1 : i = j + 1
    · subst h1; exact Int.le_refl _
    · exact Int.le_trans (ih (by omega) (by omega)) (h j (by omega) hj)
structure MV.Good (m : MV) : Prop where
  ok : m.ov.ok
  c : ∀ i, i < m.casts.length → m.casts.getD i 0 = (m.ov.c i : Int)
  w : ∀ i, i < m.casts.length → m.waits.getD i 0 = (m.ov.w i : Int)
  lo : m.lo = (m.ov.lo : Int)
  hi : m.hi = (m.ov.hi : Int)
  wl : m.waits.length = m.casts.length
theorem good_of {m : MV} (h : chk m = 0) : m.Good := by
  obtain ⟨⟨h1, h2⟩, h3, h4, h5, h6, h7, h8⟩ := chk_pos h
  simp only [inMould, Bool.and_eq_true] at h4
  obtain ⟨⟨a1, a2⟩, a3⟩ := h4
  rw [inB_two] at a1
  simp only [decide_eq_true_eq] at a1
  have cc : ∀ i, i < m.casts.length → m.casts.getD i 0 = (m.ov.c i : Int) := fun i hi => by
    have := inB_at a2 hi
    show _ = (((m.casts.getD i 0).toNat : Nat) : Int)
    omega
  have ww : ∀ i, i < m.casts.length → m.waits.getD i 0 = (m.ov.w i : Int) := fun i hi => by
    have := inB_at a3 (i := i) (by omega)
    show _ = (((m.waits.getD i 0).toNat : Nat) : Int)
    omega
  have el : m.lo = (m.ov.lo : Int) := by show _ = ((m.lo.toNat : Nat) : Int); omega
  have eh : m.hi = (m.ov.hi : Int) := by show _ = ((m.hi.toNat : Nat) : Int); omega
  have nb : ∀ i, i < m.casts.length → (i : Int) ≤ m.ov.c i ∧ (m.ov.w i : Int) ≤ i := fun i hi => by
    have := h8 i hi
    rw [badAt, cc i hi, ww i hi] at this
    omega
  refine ⟨⟨h1, h2, fun i hi => ?_, fun i hi => ?_, fun i hi => ?_, fun i j hij hj => ?_, fun i j hij hj => ?_, ?_, ?_⟩, cc, ww, el, eh, h3⟩
  · have := (nb i hi).1; omega
  · have := (inB_at a2 hi).2
    rw [cc i hi] at this
    show m.ov.c i < m.casts.length
    omega
  · have := (nb i hi).2; omega
  · have hj' : j < m.casts.length := hj
    have := sorted_mono h6 i j hij hj
    rw [cc i (by omega), cc j hj] at this
    omega
  · have hj' : j < m.casts.length := hj
    have := sorted_mono h7 i j hij (by omega)
    rw [ww i (by omega), ww j hj] at this
    omega
  · omega
  · show m.ov.hi < m.casts.length
    omega
abbrev spV (s : OV.Sp) : Value := .agg #[.int .i64 (s.1 : Int), .int .i64 (s.2 : Int)]
abbrev spC (s : OV.Sp) : Array Value := #[.int .i64 (s.1 : Int), .int .i64 (s.2 : Int)]
theorem possible81 (m : MV) (b : Nat) (s : OV.Sp) (h : Eng.Heap) (g : m.Good) (ho : Oven h b m) :
    CallsH Tryd.prog 81 #[.pointer (some ⟨b, 0, none⟩), spV s] h (fun v h' => v = .bool (m.ov.can s) ∧ Ext h h') := by
  have ho1 : (h.push (.cells (spC s) 84))[b]? = some (.cells #[.slice m.a m.casts.length m.ca, .slice m.b m.waits.length m.cb, .int .i64 m.lo, .int .i64 m.hi] 112) := push_old ho
  have hb := push_new (h := h) (o := .cells (spC s) 84)
  have x0 : Ext h (h.push (.cells (spC s) 84)) := (Ext.refl h).push _
  have e1 : m.ov.can s = (decide (m.lo ≤ (s.1 : Int)) && decide ((s.2 : Int) ≤ m.hi)) := by
    rw [OV.can, g.lo, g.hi]; simp only [Int.ofNat_le]
  rw [e1]
  (refine CallsH_of_exec Tryd.func81 rfl bod81 ?_; simp only [Tryd.ntmps81, Tryd.results81, coreS, stK_some, splice, Value.cells, Value.oneCell', Nat.reduceAdd, Nat.reduceSub, Nat.reduceMul, Nat.reduceLeDiff, Int.reduceEq, Nat.reduceEqDiff, H5Fs81])
  refine WP_draw (by kernel_rfl) sta_eq [(0, 0), (1, 0), (2, 0), (3, 0), (4, 0), (5, 0), (6, 0), (7, 0), (8, 0), (9, 0), (10, 0), (11, 0), (12, 0), (13, 0), (14, 0), (15, 0), (16, 0), (17, 0), (18, 0)] (by kernel_rfl) rfl (by kernel_rfl) ?_
  by_cases h1 : m.lo ≤ (s.1 : Int)
  · simp only [ho1, hb, h1, decide_true, Bool.true_and, coreS, Value.cells, Value.oneCell', Nat.reduceAdd, Nat.reduceSub, Nat.reduceMul, Nat.reduceLeDiff, Int.reduceEq, Nat.reduceEqDiff, drawS, H5Fs81]
    exact x0
  · simp only [ho1, hb, h1, gq_none, decide_false, Bool.false_and, coreS, Value.cells, Value.oneCell', Nat.reduceAdd, Nat.reduceSub, Nat.reduceMul, Nat.reduceLeDiff, Int.reduceEq, Nat.reduceEqDiff, drawS, H5Fs81]
    exact x0
theorem wait82 (m : MV) (b : Nat) (s : OV.Sp) (h : Eng.Heap) (g : m.Good) (hm : m.ok h) (ho : Oven h b m) (hs : m.ov.In s) :
    CallsH Tryd.prog 82 #[.pointer (some ⟨b, 0, none⟩), spV s] h (fun v h' => v = spV (m.ov.W s) ∧ Ext h h') := by
  have q0 := pn0 (h := h) (o := .cells (spC s) 84) (o' := .cells #[.int .i64 0, .int .i64 0] 84)
  have q1 := pn1 (h := h) (o := .cells (spC s) 84) (o' := .cells #[.int .i64 0, .int .i64 0] 84)
  have ho1 : ((h.push (.cells (spC s) 84)).push (.cells #[.int .i64 0, .int .i64 0] 84))[b]? = some (.cells #[.slice m.a m.casts.length m.ca, .slice m.b m.waits.length m.cb, .int .i64 m.lo, .int .i64 m.hi] 112) := push_old (push_old ho)
  have x0 : Ext h ((h.push (.cells (spC s) 84)).push (.cells #[.int .i64 0, .int .i64 0] 84)) := ((Ext.refl h).push _).push _
  have hm0 := hm.ext x0
  have s1 : s.1 < m.casts.length := hs.1
  have s2 : s.2 < m.casts.length := hs.2
  have c1 := hm0.w.cell (j := s.1) (by rw [g.wl]; exact s1)
  have c2 := hm0.w.cell (j := s.2) (by rw [g.wl]; exact s2)
  have sm := hm0.w.isSome (by rw [g.wl]; omega)
  have wl := g.wl
  rw [g.w _ s1] at c1
  rw [g.w _ s2] at c2
  (refine CallsH_of_exec Tryd.func82 rfl bod82 ?_; simp only [Tryd.ntmps82, Tryd.results82, coreS, stK_some, splice, Value.cells, Value.oneCell', Nat.reduceAdd, Nat.reduceSub, Nat.reduceMul, Nat.reduceLeDiff, Int.reduceEq, Nat.reduceEqDiff, H5Fs82])
  refine WP_draw (by kernel_rfl) sta_eq [(0, 0), (1, 0), (2, 0), (3, 0), (4, 0), (5, 0), (6, 0), (7, 0), (8, 0), (9, 0), (10, 0), (11, 0), (12, 0), (13, 0), (14, 0), (15, 0), (16, 0), (17, 0), (18, 0), (19, 1)] (by kernel_rfl) rfl (by kernel_rfl) ?_
  simp only [ho1, q0, q1, c1, c2, Int.toNat_natCast, splice, coreS, Value.cells, Value.oneCell', Nat.reduceAdd, Nat.reduceSub, Nat.reduceMul, Nat.reduceLeDiff, Int.reduceEq, Nat.reduceEqDiff, drawS, H5Fs82]
  refine ⟨⟨by omega, by omega⟩, sm, ⟨by omega, by omega⟩, sm, ?_⟩
  refine stK_abs q1 (by simp) fun h9 g9 u9 => ?_
  simp only [splice] at g9
  simp only [hvK_eq, g9, splice, coreS, Value.cells, Value.oneCell', Nat.reduceAdd, Nat.reduceSub, Nat.reduceMul, Nat.reduceLeDiff, Int.reduceEq, Nat.reduceEqDiff, drawS, H5Fs82]
  exact ⟨rfl, u9.ext x0 (by omega)⟩
theorem cast83 (m : MV) (b : Nat) (s : OV.Sp) (h : Eng.Heap) (g : m.Good) (hm : m.ok h) (ho : Oven h b m) (hs : m.ov.In s) :
    CallsH Tryd.prog 83 #[.pointer (some ⟨b, 0, none⟩), spV s] h (fun v h' => v = spV (m.ov.C s) ∧ Ext h h') := by
  have q0 := pn0 (h := h) (o := .cells (spC s) 84) (o' := .cells #[.int .i64 0, .int .i64 0] 84)
  have q1 := pn1 (h := h) (o := .cells (spC s) 84) (o' := .cells #[.int .i64 0, .int .i64 0] 84)
  have ho1 : ((h.push (.cells (spC s) 84)).push (.cells #[.int .i64 0, .int .i64 0] 84))[b]? = some (.cells #[.slice m.a m.casts.length m.ca, .slice m.b m.waits.length m.cb, .int .i64 m.lo, .int .i64 m.hi] 112) := push_old (push_old ho)
  have x0 : Ext h ((h.push (.cells (spC s) 84)).push (.cells #[.int .i64 0, .int .i64 0] 84)) := ((Ext.refl h).push _).push _
  have hm0 := hm.ext x0
  have s1 : s.1 < m.casts.length := hs.1
  have s2 : s.2 < m.casts.length := hs.2
  have c1 := hm0.c.cell (j := s.1) s1
  have c2 := hm0.c.cell (j := s.2) s2
  have sm := hm0.c.isSome (by omega)
  have wl := g.wl
  rw [g.c _ s1] at c1
  rw [g.c _ s2] at c2
  (refine CallsH_of_exec Tryd.func83 rfl bod83 ?_; simp only [Tryd.ntmps83, Tryd.results83, coreS, stK_some, splice, Value.cells, Value.oneCell', Nat.reduceAdd, Nat.reduceSub, Nat.reduceMul, Nat.reduceLeDiff, Int.reduceEq, Nat.reduceEqDiff, H5Fs83])
  refine WP_draw (by kernel_rfl) sta_eq [(0, 0), (1, 0), (2, 0), (3, 0), (4, 0), (5, 0), (6, 0), (7, 0), (8, 0), (9, 0), (10, 0), (11, 0), (12, 0), (13, 0), (14, 0), (15, 0), (16, 0), (17, 0), (18, 0), (19, 1)] (by kernel_rfl) rfl (by kernel_rfl) ?_
  simp only [ho1, q0, q1, c1, c2, Int.toNat_natCast, splice, coreS, Value.cells, Value.oneCell', Nat.reduceAdd, Nat.reduceSub, Nat.reduceMul, Nat.reduceLeDiff, Int.reduceEq, Nat.reduceEqDiff, drawS, H5Fs83]
  refine ⟨⟨by omega, by omega⟩, sm, ⟨by omega, by omega⟩, sm, ?_⟩
  refine stK_abs q1 (by simp) fun h9 g9 u9 => ?_
  simp only [splice] at g9
  simp only [hvK_eq, g9, splice, coreS, Value.cells, Value.oneCell', Nat.reduceAdd, Nat.reduceSub, Nat.reduceMul, Nat.reduceLeDiff, Int.reduceEq, Nat.reduceEqDiff, drawS, H5Fs83]
  exact ⟨rfl, u9.ext x0 (by omega)⟩
def bits (s : ByteArray) : List Bool := s.data.toList.map fun b => b == 99
theorem bits_length (s : ByteArray) : (bits s).length = s.size := by rw [bits, List.length_map, size_list]
theorem bits_next (s : ByteArray) {i : Nat} (hi : i < s.size) : (bits s).take (i + 1) = (bits s).take i ++ [s.data.getD i 0 == 99] := by
  have hi' : i < s.data.size := hi
  rw [List.take_add_one, List.getElem?_eq_getElem (by rw [bits_length]; exact hi)]
  simp only [bits, List.getElem_map, Array.getElem_toList, Option.toList_some]
  rw [Array.getD_eq_getD_getElem?, Array.getElem?_eq_getElem hi', Option.getD_some]
end Go.Proofs.YtafemfjhflfdeaaDoor
end
section
namespace Go.Proofs.YtafemfjhflfdeaaDoor
open Go Go.Proofs Go.Eng Tab
set_option maxRecDepth 100000
set_option linter.unusedSimpArgs false
set_option linter.unusedVariables false
set_option maxHeartbeats 2000000
set_option linter.defProp false
def H6Fs58 := (And.intro (And.intro @agg84 @inf84) (And.intro @okf84 (And.intro @sz84 @zero84)))
def runV (r : Option OV.Sp) : Value := match r with | some t => .tuple #[spV t, .bool true] | none => .tuple #[.agg #[.int .i64 0, .int .i64 0], .bool false]
theorem ascii_of {s : ByteArray} (hl : lets s = true) {i : Nat} (hi : i < s.size) : (s.data.getD i 0).toNat < 128 := by
  rcases (lets_iff s).1 hl i hi with h | h <;> rw [h] <;> decide
theorem run58 (m : MV) (b : Nat) (s0 : OV.Sp) (s : ByteArray) (h : Eng.Heap) (gd : m.Good) (hm : m.ok h) (ho : Oven h b m) (hs : m.ov.In s0) (hl : lets s = true) :
    CallsH Tryd.prog 58 #[.pointer (some ⟨b, 0, none⟩), spV s0, .string s] h (fun v h' => v = runV (m.ov.run s0 (bits s)) ∧ Ext h h') := by
  have q0 := pn0 (h := h) (o := .cells (spC s0) 84) (o' := .cells #[.int .i64 0, .int .i64 0] 84)
  have q1 := pn1 (h := h) (o := .cells (spC s0) 84) (o' := .cells #[.int .i64 0, .int .i64 0] 84)
  have x0 : Ext h ((h.push (.cells (spC s0) 84)).push (.cells #[.int .i64 0, .int .i64 0] 84)) := ((Ext.refl h).push _).push _
  (refine CallsH_of_exec Tryd.func58 rfl bod58 ?_; simp only [Tryd.ntmps58, Tryd.results58, coreS, stK_some, splice, Value.cells, Value.oneCell', Nat.reduceAdd, Nat.reduceSub, Nat.reduceMul, Nat.reduceLeDiff, Int.reduceEq, Nat.reduceEqDiff, H6Fs58])
  refine str_rangeT Tryd.underlying9 rfl ?_
  simp only [coreS, Value.cells, Value.oneCell', Nat.reduceAdd, Nat.reduceSub, Nat.reduceMul, Nat.reduceLeDiff, Int.reduceEq, Nat.reduceEqDiff, H6Fs58]
  have r0 := push_old (o := .stringIter s 0) q0
  have r1 := push_old (o := .stringIter s 0) q1
  have r2 := push_new (h := (h.push (.cells (spC s0) 84)).push (.cells #[.int .i64 0, .int .i64 0] 84)) (o := .stringIter s 0)
  simp only [push_size] at r2
  have y0 := x0.push (.stringIter s 0)
  refine WP_loopI [7, 10, 15, 16, 17, 18, 19, 20, 21, 22, 23, 24, 25, 26, 27, 28, 29, 30, 31, 32] (fun g h' => ∃ (i : Nat) (t : OV.Sp), i ≤ s.size ∧ m.ov.run s0 ((bits s).take i) = some t ∧ h'[h.size]? = some (.cells (spC t) 84) ∧ h'[h.size + 1]? = some (.cells #[.int .i64 0, .int .i64 0] 84) ∧ h'[h.size + 1 + 1]? = some (.stringIter s i) ∧ Ext h h') (fun _ h' => match h'[h.size + 1 + 1]? with | some (.stringIter _ i) => s.size - i | _ => 0) ⟨0, s0, by omega, rfl, r0, r1, r2, y0⟩ ?_
  rintro g h' ⟨i, t, hin, hrun, k0, k1, k2, y⟩
  have ht := OV.in_run gd.ok hs hrun
  by_cases hi : i < s.size
  · simp only [coreS, Value.cells, Value.oneCell', Nat.reduceAdd, Nat.reduceSub, Nat.reduceMul, Nat.reduceLeDiff, Int.reduceEq, Nat.reduceEqDiff, H6Fs58]
    refine str_next_one rfl k2 hi (ascii_of hl hi) fun h2 k2' u2 => ?_
    have j0 := u2.get k0 (by omega)
    have j1 := u2.get k1 (by omega)
    have y2 := u2.ext y (by omega)
    have hnx := bits_next s hi
    have hmu : (match h'[h.size + 1 + 1]? with | some (.stringIter _ i) => s.size - i | _ => 0) = s.size - i := by rw [k2]
    have again : ∀ {b0 : Bool} {t2 : OV.Sp}, (s.data.getD i 0 == 99) = b0 → m.ov.step t b0 = some t2 → m.ov.run s0 ((bits s).take (i + 1)) = some t2 := fun hb ht2 => by
      rw [hnx, OV.run_append, hrun, hb]
      simp [OV.run, ht2]
    by_cases hw : s.data.getD i 0 = 119
    · have hw2 : ((s.data.getD i 0).toNat : Int) = 119 := by rw [hw]; rfl
      simp only [hw2, j0, decide_true, coreS, Value.cells, Value.oneCell', Nat.reduceAdd, Nat.reduceSub, Nat.reduceMul, Nat.reduceLeDiff, Int.reduceEq, Nat.reduceEqDiff, H6Fs58]
      refine CallsH.mono (wait82 m b t h2 gd (hm.ext y2) (y2.get ho) ht) ?_
      rintro v h3 ⟨rfl, x3⟩
      simp only [x3.get j0, coreS, Value.cells, Value.oneCell', Nat.reduceAdd, Nat.reduceSub, Nat.reduceMul, Nat.reduceLeDiff, Int.reduceEq, Nat.reduceEqDiff, H6Fs58]
      refine stK_abs (x3.get j0) (by simp) fun h4 g4 u4 => ?_
      simp only [splice] at g4
      have k4 := u4.get (x3.get k2') (by omega)
      simp only [coreS, Value.cells, Value.oneCell', Nat.reduceAdd, Nat.reduceSub, Nat.reduceMul, Nat.reduceLeDiff, Int.reduceEq, Nat.reduceEqDiff, H6Fs58]
      refine roundK_mk (by kernel_rfl) ⟨i + 1, m.ov.W t, by omega, again (b0 := false) (by rw [hw]; rfl) rfl, g4, u4.get (x3.get j1) (by omega), k4, u4.ext (y2.trans x3) (by omega)⟩ ?_
      rw [hmu]
      simp only [k4]
      omega
    · have hc : s.data.getD i 0 = 99 := ((lets_iff s).1 hl i hi).resolve_right hw
      have hw2 : ¬ ((s.data.getD i 0).toNat : Int) = 119 := by rw [hc]; decide
      simp only [hw2, j0, decide_false, coreS, Value.cells, Value.oneCell', Nat.reduceAdd, Nat.reduceSub, Nat.reduceMul, Nat.reduceLeDiff, Int.reduceEq, Nat.reduceEqDiff, H6Fs58]
      refine CallsH.mono (possible81 m b t h2 gd (y2.get ho)) ?_
      rintro v h3 ⟨rfl, x3⟩
      have y3 := y2.trans x3
      cases hcan : m.ov.can t with
      | true =>
        simp only [x3.get j0, Bool.not_true, coreS, Value.cells, Value.oneCell', Nat.reduceAdd, Nat.reduceSub, Nat.reduceMul, Nat.reduceLeDiff, Int.reduceEq, Nat.reduceEqDiff, H6Fs58]
        refine CallsH.mono (cast83 m b t h3 gd (hm.ext y3) (y3.get ho) ht) ?_
        rintro v h4 ⟨rfl, x4⟩
        simp only [x4.get (x3.get j0), coreS, Value.cells, Value.oneCell', Nat.reduceAdd, Nat.reduceSub, Nat.reduceMul, Nat.reduceLeDiff, Int.reduceEq, Nat.reduceEqDiff, H6Fs58]
        refine stK_abs (x4.get (x3.get j0)) (by simp) fun h5 g5 u5 => ?_
        simp only [splice] at g5
        have k5 := u5.get (x4.get (x3.get k2')) (by omega)
        simp only [coreS, Value.cells, Value.oneCell', Nat.reduceAdd, Nat.reduceSub, Nat.reduceMul, Nat.reduceLeDiff, Int.reduceEq, Nat.reduceEqDiff, H6Fs58]
        refine roundK_mk (by kernel_rfl) ⟨i + 1, m.ov.C t, by omega, again (b0 := true) (by rw [hc]; rfl) (by simp [OV.step, hcan]), g5, u5.get (x4.get (x3.get j1)) (by omega), k5, u5.ext (y3.trans x4) (by omega)⟩ ?_
        rw [hmu]
        simp only [k5]
        omega
      | false =>
        have hfin : m.ov.run s0 (bits s) = none := by
          have e := (List.take_append_drop (i + 1) (bits s)).symm
          rw [e, hnx, OV.run_append, OV.run_append, hrun, hc]
          simp [OV.run, OV.step, hcan]
        simp only [x3.get j1, Bool.not_false, splice, coreS, Value.cells, Value.oneCell', Nat.reduceAdd, Nat.reduceSub, Nat.reduceMul, Nat.reduceLeDiff, Int.reduceEq, Nat.reduceEqDiff, H6Fs58]
        refine stK_abs (x3.get j1) (by simp) fun h5 g5 u5 => ?_
        simp only [splice] at g5
        simp only [g5, splice, hfin, coreS, Value.cells, Value.oneCell', Nat.reduceAdd, Nat.reduceSub, Nat.reduceMul, Nat.reduceLeDiff, Int.reduceEq, Nat.reduceEqDiff, H6Fs58]
        exact ⟨rfl, u5.ext y3 (by omega)⟩
  · have hall : (bits s).take i = bits s := List.take_of_length_le (by rw [bits_length]; omega)
    rw [hall] at hrun
    simp only [coreS, Value.cells, Value.oneCell', Nat.reduceAdd, Nat.reduceSub, Nat.reduceMul, Nat.reduceLeDiff, Int.reduceEq, Nat.reduceEqDiff, H6Fs58]
    refine str_next_end rfl k2 (by omega) ?_
    simp only [k0, k1, splice, coreS, Value.cells, Value.oneCell', Nat.reduceAdd, Nat.reduceSub, Nat.reduceMul, Nat.reduceLeDiff, Int.reduceEq, Nat.reduceEqDiff, H6Fs58]
    refine stK_abs k1 (by simp) fun h5 g5 u5 => ?_
    simp only [splice] at g5
    simp only [g5, splice, hrun, coreS, Value.cells, Value.oneCell', Nat.reduceAdd, Nat.reduceSub, Nat.reduceMul, Nat.reduceLeDiff, Int.reduceEq, Nat.reduceEqDiff, H6Fs58]
    exact ⟨rfl, u5.ext y (by omega)⟩
end Go.Proofs.YtafemfjhflfdeaaDoor
end
section
namespace Go.Proofs.YtafemfjhflfdeaaDoor
open Go Go.Proofs Go.Eng Tab
set_option maxRecDepth 100000
set_option linter.unusedSimpArgs false
set_option linter.unusedVariables false
set_option maxHeartbeats 2000000
set_option linter.defProp false
def H7Fs20 := (And.intro (And.intro (And.intro (And.intro @agg24 @agg3) (And.intro @agg84 @by3)) (And.intro (And.intro @fo84_0 @fps84_0) (And.intro @fps84_1 @inf24))) (And.intro (And.intro (And.intro @inf3 @inf84) (And.intro @okf84 @sz24)) (And.intro (And.intro @sz3 @sz84) (And.intro @zero3 (And.intro @zero84 @Tryd.underlying22)))))
def H7Fs21 := (And.intro @agg24 (And.intro @inf24 @sz24))
def H7Fs45 := (And.intro (And.intro (And.intro @agg22 (And.intro @agg24 @agg3)) (And.intro (And.intro @by3 @fo24_0) (And.intro @fo24_1 @inf22))) (And.intro (And.intro @inf24 (And.intro @inf3 @sz22)) (And.intro (And.intro @sz24 @sz3) (And.intro @Tryd.underlying9 @Tryd.underlying22))))
def runOfV (r : Option OV.Sp) (c : Nat) : Value := match r with | some t => .tuple #[.int .i64 (t.1 : Int), .int .i64 (c : Int), .bool true] | none => .tuple #[.int .i64 0, .int .i64 0, .bool false]
theorem runOf45 (m : MV) (i0 : Nat) (s : ByteArray) (h : Eng.Heap) (gd : m.Good) (hm : m.ok h) (hi0 : i0 < m.casts.length) (hl : lets s = true) (hs : s.size ≤ 1000000) :
    CallsH Tryd.prog 45 #[m.val, .int .i64 (i0 : Int), .string s] h (fun v h' => v = runOfV (m.ov.run (i0, i0) (bits s)) (OV.casts (bits s)) ∧ Ext h h') := by
  have hb := push_new (h := h) (o := .cells #[.slice m.a m.casts.length m.ca, .slice m.b m.waits.length m.cb, .int .i64 m.lo, .int .i64 m.hi] 24)
  have x0 : Ext h (h.push (.cells #[.slice m.a m.casts.length m.ca, .slice m.b m.waits.length m.cb, .int .i64 m.lo, .int .i64 m.hi] 24)) := (Ext.refl h).push _
  (refine CallsH_of_exec Tryd.func45 rfl bod45 ?_; simp only [Tryd.ntmps45, Tryd.results45, coreS, stK_some, splice, Value.cells, Value.oneCell', Nat.reduceAdd, Nat.reduceSub, Nat.reduceMul, Nat.reduceLeDiff, Int.reduceEq, Nat.reduceEqDiff, H7Fs45])
  refine WP_loopI [6, 7, 8, 9, 10, 11, 13, 14, 15, 16, 17, 18, 19, 20, 21, 22, 23, 24, 25, 26, 27, 28, 29, 30, 31, 32, 33, 34, 35, 36, 37, 38] (fun g h' => ∃ (i t : Nat), i ≤ s.size ∧ t < m.casts.length ∧ m.ov.run (i0, i0) ((bits s).take i) = some (t, t) ∧ g 9 = .int .i64 (t : Int) ∧ g 10 = .int .i64 (OV.casts ((bits s).take i) : Int) ∧ g 11 = .int .i64 (i : Int) ∧ h'[h.size]? = some (.cells #[.slice m.a m.casts.length m.ca, .slice m.b m.waits.length m.cb, .int .i64 m.lo, .int .i64 m.hi] 24) ∧ Ext h h') (fun g _ => match g 11 with | .int _ q => s.size - q.toNat | _ => 0) ⟨0, i0, by omega, hi0, rfl, rfl, rfl, rfl, hb, x0⟩ ?_
  rintro g h' ⟨i, t, hin, htn, hrun, h9, h10, h11, hb', y⟩
  by_cases hi : i < s.size
  · have hnx := bits_next s hi
    have hcc : OV.casts ((bits s).take i) ≤ i := Nat.le_trans (OV.casts_le _) (by rw [List.length_take]; omega)
    have hmm := hm.ext y
    have again : ∀ {b0 : Bool} {t2 : Nat}, (s.data.getD i 0 == 99) = b0 → m.ov.step (t, t) b0 = some (t2, t2) → m.ov.run (i0, i0) ((bits s).take (i + 1)) = some (t2, t2) := fun hb ht2 => by
      rw [hnx, OV.run_append, hrun, hb]
      simp [OV.run, ht2]
    by_cases hw : s.data.getD i 0 = 119
    · have hw2 : ((s.data.getD i 0).toNat : Int) = 119 := by rw [hw]; rfl
      have cw := hmm.w.cell (j := t) (by rw [gd.wl]; exact htn)
      rw [gd.w _ htn] at cw
      have wl := gd.wl
      have hcs : OV.casts ((bits s).take (i + 1)) = OV.casts ((bits s).take i) := by rw [hnx, OV.casts_append, hw]; rfl
      have hwn := gd.ok.wg t htn
      simp only [h9, h10, h11, hw2, hb', cw, Int.toNat_natCast, decide_true, coreS, Value.cells, Value.oneCell', Nat.reduceAdd, Nat.reduceSub, Nat.reduceMul, Nat.reduceLeDiff, Int.reduceEq, Nat.reduceEqDiff, H7Fs45]
      refine ⟨fun _ => ⟨by omega, ⟨by omega, by omega⟩, hmm.w.isSome (by omega), ?_⟩, fun hge => absurd hge (by omega)⟩
      refine ⟨by rw [inK_i64]; omega, roundK_mk (by kernel_rfl) ⟨i + 1, m.ov.w t, by omega, by omega, again (b0 := false) (by rw [hw]; rfl) rfl, rfl, by rw [hcs]; rfl, rfl, hb', y⟩ ?_⟩
      show s.size - ((i : Int) + 1).toNat < s.size - (i : Int).toNat
      omega
    · have hc : s.data.getD i 0 = 99 := ((lets_iff s).1 hl i hi).resolve_right hw
      have hw2 : ¬ ((s.data.getD i 0).toNat : Int) = 119 := by rw [hc]; decide
      simp only [h9, h10, h11, hw2, hb', Int.toNat_natCast, decide_false, coreS, Value.cells, Value.oneCell', Nat.reduceAdd, Nat.reduceSub, Nat.reduceMul, Nat.reduceLeDiff, Int.reduceEq, Nat.reduceEqDiff, H7Fs45]
      refine ⟨fun _ => ⟨by omega, ?_⟩, fun hge => absurd hge (by omega)⟩
      refine CallsH.mono (can67 m t h') ?_
      rintro v h2 ⟨rfl, x2⟩
      have hcan : (decide (m.lo ≤ (t : Int)) && decide ((t : Int) ≤ m.hi)) = m.ov.can (t, t) := by
        rw [OV.can, gd.lo, gd.hi]; simp only [Int.ofNat_le]
      rw [hcan]
      have hb2 := x2.get hb'
      have hm2 := hmm.ext x2
      cases hcn : m.ov.can (t, t) with
      | true =>
        have cc := hm2.c.cell (j := t) htn
        rw [gd.c _ htn] at cc
        have hcs : OV.casts ((bits s).take (i + 1)) = OV.casts ((bits s).take i) + 1 := by rw [hnx, OV.casts_append, hc]; rfl
        have hwn := gd.ok.cl t htn
        simp only [hb2, cc, Bool.not_true, Int.toNat_natCast, coreS, Value.cells, Value.oneCell', Nat.reduceAdd, Nat.reduceSub, Nat.reduceMul, Nat.reduceLeDiff, Int.reduceEq, Nat.reduceEqDiff, H7Fs45]
        refine ⟨⟨by omega, by omega⟩, hm2.c.isSome (by omega), by rw [inK_i64]; omega, ?_⟩
        refine ⟨by rw [inK_i64]; omega, roundK_mk (by kernel_rfl) ⟨i + 1, m.ov.c t, by omega, hwn, again (b0 := true) (by rw [hc]; rfl) (by simp [OV.step, hcn, OV.C]), rfl, by rw [hcs]; push_cast; rfl, rfl, hb2, y.trans x2⟩ ?_⟩
        show s.size - ((i : Int) + 1).toNat < s.size - (i : Int).toNat
        omega
      | false =>
        have hfin : m.ov.run (i0, i0) (bits s) = none := by
          have e := (List.take_append_drop (i + 1) (bits s)).symm
          rw [e, hnx, OV.run_append, OV.run_append, hrun, hc]
          simp [OV.run, OV.step, hcn]
        simp only [hfin, Bool.not_false, coreS, Value.cells, Value.oneCell', Nat.reduceAdd, Nat.reduceSub, Nat.reduceMul, Nat.reduceLeDiff, Int.reduceEq, Nat.reduceEqDiff, H7Fs45]
        exact ⟨rfl, y.trans x2⟩
  · have hall : (bits s).take i = bits s := List.take_of_length_le (by rw [bits_length]; omega)
    rw [hall] at hrun h10
    simp only [h9, h10, h11, hrun, coreS, Value.cells, Value.oneCell', Nat.reduceAdd, Nat.reduceSub, Nat.reduceMul, Nat.reduceLeDiff, Int.reduceEq, Nat.reduceEqDiff, H7Fs45]
    refine ⟨fun hlt => absurd hlt (by omega), fun _ => ⟨rfl, y⟩⟩
theorem casts_bits (s : ByteArray) : Lib.countByte s.data.toList 99 = OV.casts (bits s) := by
  rw [Lib.countByte, OV.casts, bits, List.count_eq_countP, List.count_eq_countP, List.countP_map]
  congr 1
  funext b
  simp [Function.comp]
def runE (m : MV) (from' : Int) (s : ByteArray) : Int := if opn m [from'] ≠ 0 then opn m [from'] else if formE s ≠ 0 then formE s else if (m.ov.run (from'.toNat, from'.toNat) (bits s)).isNone then 22 else 0
def runA (m : MV) (from' : Int) (s : ByteArray) : Int := if runE m from' s = 0 then (((m.ov.run (from'.toNat, from'.toNat) (bits s)).map (·.1)).getD 0 : Nat) else 0
def runK (m : MV) (from' : Int) (s : ByteArray) : Int := if runE m from' s = 0 then (OV.casts (bits s) : Nat) else 0
theorem opn_good {m : MV} {hs : List Int} (h : opn m hs = 0) : m.Good ∧ inB 0 (m.casts.length - 1) hs = true := by
  unfold opn at h
  split at h
  · rename_i h1; exact absurd h h1
  split at h
  · rename_i h1 h2; exact ⟨good_of (Classical.not_not.1 h1), h2⟩
  · omega
theorem form_ok {s : ByteArray} (h : formE s = 0) : s.size ≤ 500 ∧ lets s = true := by
  unfold formE at h
  split at h
  · omega
  split at h
  · rename_i h1 h2; exact ⟨by omega, h2⟩
  · omega
theorem run20 (m : MV) (x : Int) (s : ByteArray) (h : Eng.Heap) (hm : m.ok h) (hs : s.size ≤ 9223372036854775807) :
    CallsH Tryd.prog 20 #[m.val, .int .i64 x, .string s] h (fun v h' => v = .tuple #[.int .i64 (runA m x s), .int .i64 (runK m x s), .int .i64 (runE m x s)] ∧ Ext h h') := by
  have hb := push_new (h := h) (o := .cells #[.slice m.a m.casts.length m.ca, .slice m.b m.waits.length m.cb, .int .i64 m.lo, .int .i64 m.hi] 24)
  have x0 : Ext h (h.push (.cells #[.slice m.a m.casts.length m.ca, .slice m.b m.waits.length m.cb, .int .i64 m.lo, .int .i64 m.hi] 24)) := (Ext.refl h).push _
  (refine CallsH_of_exec Tryd.func20 rfl bod20 ?_; simp only [Tryd.ntmps20, Tryd.results20, coreS, stK_some, splice, Value.cells, Value.oneCell', Nat.reduceAdd, Nat.reduceSub, Nat.reduceMul, Nat.reduceLeDiff, Int.reduceEq, Nat.reduceEqDiff, H7Fs20])
  refine CallsH.mono (open56 m _ 1 1 [x] _ (hm.ext (x0.push _)) (intsV_one pn1) (by omega)) ?_
  rintro v h1 ⟨x1, h1'⟩
  have y1 := (x0.push _).trans x1
  have key : ∀ {p : Int} {h2 : Eng.Heap}, runE m x s = p → p ≠ 0 → Ext h h2 → Value.tuple #[.int .i64 0, .int .i64 0, .int .i64 p] = .tuple #[.int .i64 (runA m x s), .int .i64 (runK m x s), .int .i64 (runE m x s)] ∧ Ext h h2 := by
    rintro p h2 rfl hp y
    exact ⟨by rw [runA, runK, if_neg hp, if_neg hp], y⟩
  rcases h1' with ⟨e0, b, rfl, ho, hbs⟩ | ⟨e0, rfl⟩
  · obtain ⟨gd, hin⟩ := opn_good e0
    rw [inB_one] at hin
    simp only [decide_eq_true_eq] at hin
    obtain ⟨i0, rfl⟩ : ∃ i : Nat, x = i := ⟨x.toNat, by omega⟩
    simp only [decide_true, Bool.not_true, coreS, Value.cells, Value.oneCell', Nat.reduceAdd, Nat.reduceSub, Nat.reduceMul, Nat.reduceLeDiff, Int.reduceEq, Nat.reduceEqDiff, H7Fs20]
    refine CallsH.mono (letters57 s h1 hs) ?_
    rintro v h2 ⟨rfl, x2⟩
    have y2 := y1.trans x2
    by_cases hf : formE s = 0
    · obtain ⟨hs5, hl⟩ := form_ok hf
      simp only [hf, decide_true, Bool.not_true, coreS, stK_some, splice, Value.cells, Value.oneCell', Nat.reduceAdd, Nat.reduceSub, Nat.reduceMul, Nat.reduceLeDiff, Int.reduceEq, Nat.reduceEqDiff, H7Fs20]
      refine CallsH.mono (run58 m b (i0, i0) s h2 gd (hm.ext y2) (x2.get ho) ⟨by show i0 < _; have : m.ov.n = m.casts.length := rfl; omega, by show i0 < _; have : m.ov.n = m.casts.length := rfl; omega⟩ hl) ?_
      rintro v h3 ⟨rfl, x3⟩
      have y3 := y2.trans x3
      have eE : runE m i0 s = if (m.ov.run (i0, i0) (bits s)).isNone then 22 else 0 := by rw [runE, if_neg (by simpa using e0), if_neg (by simpa using hf), Int.toNat_natCast]
      cases hr : m.ov.run (i0, i0) (bits s) with
      | none =>
        rw [hr] at eE
        simp only [runV, coreS, stK_some, splice, Value.cells, Value.oneCell', Nat.reduceAdd, Nat.reduceSub, Nat.reduceMul, Nat.reduceLeDiff, Int.reduceEq, Nat.reduceEqDiff, H7Fs20]
        exact key eE (by omega) (y3.push _)
      | some t =>
        rw [hr] at eE
        have hE0 : runE m i0 s = 0 := eE
        simp only [runV, coreS, stK_some, splice, Value.cells, Value.oneCell', Nat.reduceAdd, Nat.reduceSub, Nat.reduceMul, Nat.reduceLeDiff, Int.reduceEq, Nat.reduceEqDiff, H7Fs20]
        refine WP_draw (by kernel_rfl) sta_eq [(0, 0), (1, 0), (2, 0), (3, 0), (4, 0), (5, 0), (6, 0)] (by kernel_rfl) rfl (by kernel_rfl) ?_
        have hk := push_new (h := h3) (o := .cells (spC t) 84)
        simp only [hk, coreS, Value.cells, Value.oneCell', Nat.reduceAdd, Nat.reduceSub, Nat.reduceMul, Nat.reduceLeDiff, Int.reduceEq, Nat.reduceEqDiff, drawS, H7Fs20]
        refine cQ_eq _ (count59 s 99 _) ?_
        simp only [hvK_eq, coreS, Value.cells, Value.oneCell', Nat.reduceAdd, Nat.reduceSub, Nat.reduceMul, Nat.reduceLeDiff, Int.reduceEq, Nat.reduceEqDiff, drawS, H7Fs20]
        refine ⟨?_, y3.push _⟩
        rw [runA, runK, if_pos hE0, if_pos hE0, hE0, casts_bits, Int.toNat_natCast, hr]
        rfl
    · simp only [hf, decide_false, Bool.not_false, coreS, Value.cells, Value.oneCell', Nat.reduceAdd, Nat.reduceSub, Nat.reduceMul, Nat.reduceLeDiff, Int.reduceEq, Nat.reduceEqDiff, H7Fs20]
      exact key (by rw [runE, if_neg (by simpa using e0), if_pos hf]) hf y2
  · simp only [e0, decide_false, Bool.not_false, coreS, Value.cells, Value.oneCell', Nat.reduceAdd, Nat.reduceSub, Nat.reduceMul, Nat.reduceLeDiff, Int.reduceEq, Nat.reduceEqDiff, H7Fs20]
    exact key (by rw [runE, if_pos e0]) e0 y1
theorem run21 (m : MV) (x : Int) (s : ByteArray) (h : Eng.Heap) (hm : m.ok h) (hs : s.size ≤ 9223372036854775807) :
    CallsH Tryd.prog 21 #[m.val, .int .i64 x, .string s] h (fun v h' => v = .tuple #[.int .i64 (runA m x s), .int .i64 (runK m x s), .int .i64 (runE m x s)] ∧ Ext h h') := by
  have hb := push_new (h := h) (o := .cells #[.slice m.a m.casts.length m.ca, .slice m.b m.waits.length m.cb, .int .i64 m.lo, .int .i64 m.hi] 24)
  have x0 : Ext h (h.push (.cells #[.slice m.a m.casts.length m.ca, .slice m.b m.waits.length m.cb, .int .i64 m.lo, .int .i64 m.hi] 24)) := (Ext.refl h).push _
  (refine CallsH_of_exec Tryd.func21 rfl bod21 ?_; simp only [Tryd.ntmps21, Tryd.results21, coreS, stK_some, splice, Value.cells, Value.oneCell', Nat.reduceAdd, Nat.reduceSub, Nat.reduceMul, Nat.reduceLeDiff, Int.reduceEq, Nat.reduceEqDiff, H7Fs21])
  refine CallsH.mono (isFrom60 m x _ (hm.ext x0)) ?_
  rintro v h1 ⟨rfl, x1⟩
  have y1 := x0.trans x1
  have hb1 := x1.get hb
  have key : ∀ {p : Int} {h2 : Eng.Heap}, runE m x s = p → p ≠ 0 → Ext h h2 → Value.tuple #[.int .i64 0, .int .i64 0, .int .i64 p] = .tuple #[.int .i64 (runA m x s), .int .i64 (runK m x s), .int .i64 (runE m x s)] ∧ Ext h h2 := by
    rintro p h2 rfl hp y
    exact ⟨by rw [runA, runK, if_neg hp, if_neg hp], y⟩
  by_cases e0 : opn m [x] = 0
  · obtain ⟨gd, hin⟩ := opn_good e0
    rw [inB_one] at hin
    simp only [decide_eq_true_eq] at hin
    obtain ⟨i0, rfl⟩ : ∃ i : Nat, x = i := ⟨x.toNat, by omega⟩
    simp only [e0, decide_true, Bool.not_true, coreS, Value.cells, Value.oneCell', Nat.reduceAdd, Nat.reduceSub, Nat.reduceMul, Nat.reduceLeDiff, Int.reduceEq, Nat.reduceEqDiff, H7Fs21]
    refine CallsH.mono (formOf61 s h1 hs) ?_
    rintro v h2 ⟨rfl, rfl⟩
    by_cases hf : formE s = 0
    · obtain ⟨hs5, hl⟩ := form_ok hf
      simp only [hf, hb1, decide_true, Bool.not_true, coreS, Value.cells, Value.oneCell', Nat.reduceAdd, Nat.reduceSub, Nat.reduceMul, Nat.reduceLeDiff, Int.reduceEq, Nat.reduceEqDiff, H7Fs21]
      refine CallsH.mono (runOf45 m i0 s _ gd (hm.ext y1) (by omega) hl (by omega)) ?_
      rintro v h3 ⟨rfl, x3⟩
      have y3 := y1.trans x3
      have eE : runE m i0 s = if (m.ov.run (i0, i0) (bits s)).isNone then 22 else 0 := by rw [runE, if_neg (by simpa using e0), if_neg (by simpa using hf), Int.toNat_natCast]
      cases hr : m.ov.run (i0, i0) (bits s) with
      | none =>
        rw [hr] at eE
        simp only [runOfV, Bool.not_false, coreS, Value.cells, Value.oneCell', Nat.reduceAdd, Nat.reduceSub, Nat.reduceMul, Nat.reduceLeDiff, Int.reduceEq, Nat.reduceEqDiff, H7Fs21]
        exact key eE (by omega) y3
      | some t =>
        rw [hr] at eE
        have hE0 : runE m i0 s = 0 := eE
        simp only [runOfV, Bool.not_true, coreS, Value.cells, Value.oneCell', Nat.reduceAdd, Nat.reduceSub, Nat.reduceMul, Nat.reduceLeDiff, Int.reduceEq, Nat.reduceEqDiff, H7Fs21]
        refine ⟨?_, y3⟩
        rw [runA, runK, if_pos hE0, if_pos hE0, hE0, Int.toNat_natCast, hr]
        rfl
    · simp only [hf, decide_false, Bool.not_false, coreS, Value.cells, Value.oneCell', Nat.reduceAdd, Nat.reduceSub, Nat.reduceMul, Nat.reduceLeDiff, Int.reduceEq, Nat.reduceEqDiff, H7Fs21]
      refine CallsH.mono (formOf61 s _ hs) ?_
      rintro v h2 ⟨rfl, rfl⟩
      simp only [coreS, Value.cells, Value.oneCell', Nat.reduceAdd, Nat.reduceSub, Nat.reduceMul, Nat.reduceLeDiff, Int.reduceEq, Nat.reduceEqDiff, H7Fs21]
      exact key (by rw [runE, if_neg (by simpa using e0), if_pos hf]) hf y1
  · simp only [e0, hb1, decide_false, Bool.not_false, coreS, Value.cells, Value.oneCell', Nat.reduceAdd, Nat.reduceSub, Nat.reduceMul, Nat.reduceLeDiff, Int.reduceEq, Nat.reduceEqDiff, H7Fs21]
    refine CallsH.mono (isFrom60 m x _ (hm.ext y1)) ?_
    rintro v h2 ⟨rfl, x2⟩
    simp only [coreS, Value.cells, Value.oneCell', Nat.reduceAdd, Nat.reduceSub, Nat.reduceMul, Nat.reduceLeDiff, Int.reduceEq, Nat.reduceEqDiff, H7Fs21]
    exact key (by rw [runE, if_pos e0]) e0 (y1.trans x2)
end Go.Proofs.YtafemfjhflfdeaaDoor
end
section
set_option linter.unusedVariables false
set_option linter.unusedSimpArgs false
namespace Go.Eng
open Go
structure Chg (h h' : Heap) (b : Nat) : Prop where
  size : h.size ≤ h'.size
  old : ∀ c, c < h.size → c ≠ b → h'[c]? = h[c]?
theorem Chg.refl (h : Heap) (b : Nat) : Chg h h b := ⟨Nat.le_refl _, fun _ _ _ => rfl⟩
theorem Chg.of_ext {h h' : Heap} (x : Ext h h') (b : Nat) : Chg h h' b := ⟨x.size, fun c hc _ => x.old c hc⟩
theorem Chg.trans {h h' h'' : Heap} {b : Nat} (x : Chg h h' b) (y : Chg h' h'' b) : Chg h h'' b := ⟨Nat.le_trans x.size y.size, fun c hc hne => (y.old c (Nat.lt_of_lt_of_le hc x.size) hne).trans (x.old c hc hne)⟩
theorem Chg.get {h h' : Heap} {b c : Nat} {o : Obj} (x : Chg h h' b) (hc : h[c]? = some o) (hne : c ≠ b) : h'[c]? = some o := (x.old c (lt_of_get hc) hne).trans hc
theorem Chg.upd {h h' h'' : Heap} {b : Nat} (x : Chg h h' b) (u : Upd h' h'' b) : Chg h h'' b := ⟨by rw [u.size]; exact x.size, fun c hc hne => (u.old c hne).trans (x.old c hc hne)⟩
theorem Chg.upd_new {h h' h'' : Heap} {b c : Nat} (x : Chg h h' b) (u : Upd h' h'' c) (hc : h.size ≤ c) : Chg h h'' b := ⟨by rw [u.size]; exact x.size, fun i hi hne => (u.old i (by omega)).trans (x.old i hi hne)⟩
theorem Chg.ext {h h' h'' : Heap} {b : Nat} (x : Chg h h' b) (y : Ext h' h'') : Chg h h'' b := x.trans (.of_ext y b)
theorem Chg.push {h h' : Heap} {b : Nat} (x : Chg h h' b) (o : Obj) : Chg h (h'.push o) b := x.ext ((Ext.refl h').push o)
theorem Chg.fresh {h0 h h' : Heap} {b : Nat} (x : Ext h0 h) (c : Chg h h' b) (hb : h0.size ≤ b) : Ext h0 h' := ⟨Nat.le_trans x.size c.size, fun i hi => (c.old i (Nat.lt_of_lt_of_le hi x.size) (by omega)).trans (x.old i hi)⟩
theorem Row.chg {h h' : Heap} {b : Nat} {a : Option Addr} {cs : List Value} {ents : Array MapEntry} {c : Nat} (H : Row h a cs) (hb : h[b]? = some (.map ents c)) (x : Chg h h' b) : Row h' a cs := by
  rcases H with H | ⟨g, off, cur, ct, fr, h1, h2, h3, h4⟩
  · exact .inl H
  · refine .inr ⟨g, off, cur, ct, fr, h1, x.get h2 ?_, h3, h4⟩
    rintro rfl
    rw [hb] at h2
    cases h2
theorem IntsV.chg {h h' : Heap} {b n : Nat} {a : Option Addr} {xs : List Int} {ents : Array MapEntry} {c : Nat} (H : IntsV h a n xs) (hb : h[b]? = some (.map ents c)) (x : Chg h h' b) : IntsV h' a n xs := ⟨H.len, H.row.chg hb x⟩
section maps
variable {α : Type} [DecidableEq α]
theorem getA_put {a a' : α} {v : Value} {c : Nat} : ∀ {es : List (α × Value × Nat)}, getA a' (putA a v c es) = if a' = a then some v else getA a' es
  | [] => by simp only [putA, getA]
  | x :: es => by
    have ih := getA_put (a := a) (a' := a') (v := v) (c := c) (es := es)
    by_cases hx : a = x.1
    · simp only [putA, hx, if_true, getA]
      by_cases h : a' = x.1 <;> simp [h]
    · simp only [putA, hx, if_false, getA, ih]
      by_cases h : a' = x.1
      · have : ¬ a' = a := fun e => hx (by rw [← e, h])
        simp [h, this]
        intro e; exact absurd e.symm hx
      · simp [h]
theorem put_keys {a : α} {v : Value} {c : Nat} : ∀ {es : List (α × Value × Nat)}, (putA a v c es).map (·.1) = if a ∈ es.map (·.1) then es.map (·.1) else es.map (·.1) ++ [a]
  | [] => by simp [putA]
  | x :: es => by
    have ih := put_keys (a := a) (v := v) (c := c) (es := es)
    by_cases hx : a = x.1
    · simp [putA, hx]
    · simp only [putA, hx, if_false, List.map_cons, ih, List.mem_cons, false_or]
      split <;> simp
theorem put_nodup {a : α} {v : Value} {c : Nat} {es : List (α × Value × Nat)} (h : (es.map (·.1)).Nodup) : ((putA a v c es).map (·.1)).Nodup := by
  rw [put_keys]
  split
  · exact h
  · rename_i hn
    rw [List.nodup_append]
    refine ⟨h, by simp, ?_⟩
    intro x hx y hy
    simp at hy
    subst hy
    exact fun e => hn (by rw [← e]; exact hx)
theorem getA_mem {a : α} : ∀ {es : List (α × Value × Nat)}, (es.map (·.1)).Nodup → ∀ {x}, x ∈ es → x.1 = a → getA a es = some x.2.1
  | [], _, x, h, _ => by cases h
  | y :: es, hn, x, h, he => by
    rw [List.map_cons, List.nodup_cons] at hn
    rcases List.mem_cons.1 h with rfl | h
    · simp [getA, he]
    · have : ¬ a = y.1 := fun e => hn.1 (by rw [← e, ← he]; exact List.mem_map.2 ⟨x, h, rfl⟩)
      simp only [getA, this, if_false]
      exact getA_mem hn.2 h he
theorem mem_getA {a : α} {v : Value} : ∀ {es : List (α × Value × Nat)}, getA a es = some v → ∃ c, (a, v, c) ∈ es
  | [], h => by cases h
  | x :: es, h => by
    simp only [getA] at h
    split at h
    · rename_i hx
      cases h
      exact ⟨x.2.2, by rw [hx]; simp⟩
    · obtain ⟨c, hc⟩ := mem_getA h
      exact ⟨c, by simp [hc]⟩
end maps
def leftN (r b : Nat) (h : Heap) : Nat := match h[r]?, h[b]? with
  | some (.mapIter _ _ seen _), some (.map es _) => (es.toList.filter fun e => !seen.contains e.born).length
  | _, _ => 0
theorem leftN_eq {α : Type} {kv : α → Value} {r b since c0 c : Nat} {seen : Array Nat} {h : Heap} {es : List (α × Value × Nat)} (M : MapV kv h b es c) (hr : h[r]? = some (.mapIter (some b) since seen c0)) : leftN r b h = (es.filter fun x => !seen.contains x.2.2).length := by
  rw [leftN, hr, M.obj]
  simp only [List.toList_toArray, List.filter_map, List.length_map]
  rfl
theorem filter_lt {α : Type} {p q : α → Bool} : ∀ {l : List α}, (∀ x ∈ l, q x = true → p x = true) → ∀ {e : α}, e ∈ l → p e = true → q e = false → (l.filter q).length < (l.filter p).length
  | [], _, e, h, _, _ => by cases h
  | y :: l, hs, e, h, hp, hq => by
    have hle : (l.filter q).length ≤ (l.filter p).length := by
      have : l.filter q = (l.filter p).filter q := by
        rw [List.filter_filter]
        apply List.filter_congr
        intro x hx
        by_cases hqx : q x = true
        · simp [hqx, hs x (by simp [hx]) hqx]
        · simp [hqx]
      rw [this]
      exact List.length_filter_le _ _
    rcases List.mem_cons.1 h with rfl | h
    · simp only [List.filter_cons, hp, hq, if_true, List.length_cons]
      simp
      omega
    · have ih := filter_lt (p := p) (q := q) (fun x hx => hs x (by simp [hx])) h hp hq
      simp only [List.filter_cons]
      by_cases hqy : q y = true
      · simp [hqy, hs y (by simp) hqy, ih]
      · by_cases hpy : p y = true
        · simp [hqy, hpy]; omega
        · simp [hqy, hpy, ih]
end Go.Eng
end
section
namespace Go.Proofs.YtafemfjhflfdeaaDoor
open Go Go.Eng
set_option linter.unusedSimpArgs false
set_option linter.unusedVariables false
namespace OV
variable {o : OV}
abbrev Std := Sp × Nat
def ltr (b : Bool) : ByteArray := if b then ⟨#[99]⟩ else ⟨#[119]⟩
def wayV (x : Nat) (l : ByteArray) : Value := .agg #[.int .i64 (x : Int), .string l]
def zw : Value := wayV 0 ByteArray.empty
abbrev Ents := List (Std × Value × Nat)
def right (o : OV) (a : Std) : Option Value := match a.2 with | 0 => none | k + 1 => (o.lw (k + 1) a.1).map fun x => wayV x (ltr (o.first k a.1))
def succ (o : OV) (a : Std) : Std := match a.2 with | 0 => a | k + 1 => if o.first k a.1 then (o.C a.1, k) else (o.W a.1, k + 1)
def has (o : OV) (es : Ents) (a : Std) : Prop := a.2 = 0 ∨ ∃ v, o.right a = some v ∧ getA a es = some v
def Ok (o : OV) (es : Ents) (op : List Std) : Prop := (es.map (·.1)).Nodup ∧ ∀ a v, getA a es = some v → (o.right a = some v ∧ o.has es (o.succ a)) ∨ (v = zw ∧ (o.right a = none ∨ a ∈ op))
def Sub (o : OV) (es es' : Ents) : Prop := ∀ a v, o.right a = some v → getA a es = some v → getA a es' = some v
theorem Sub.refl (es : Ents) : o.Sub es es := fun _ _ _ h => h
theorem Sub.trans {a b c : Ents} (x : o.Sub a b) (y : o.Sub b c) : o.Sub a c := fun s v hr h => y s v hr (x s v hr h)
theorem has.sub {es es' : Ents} {a : Std} (h : o.has es a) (x : o.Sub es es') : o.has es' a := by
  rcases h with h | ⟨v, h1, h2⟩
  · exact .inl h
  · exact .inr ⟨v, h1, x a v h1 h2⟩
theorem right_ne {a : Std} {v : Value} (h : o.right a = some v) : v ≠ zw := by
  unfold right at h
  split at h
  · cases h
  · rw [Option.map_eq_some_iff] at h
    obtain ⟨x, _, rfl⟩ := h
    intro e
    have h1 := congrArg (fun v => match v with | .agg a => a[1]? | _ => none) e
    simp only [zw, wayV] at h1
    have h2 : Value.string (ltr (o.first _ a.1)) = Value.string ByteArray.empty := Option.some.inj h1
    have h3 : ltr (o.first _ a.1) = ByteArray.empty := Value.string.inj h2
    have h4 := congrArg ByteArray.size h3
    cases hb : o.first _ a.1 <;> (rw [hb] at h4; exact absurd h4 (by decide))
theorem right_some {k : Nat} {s : Sp} {x : Nat} (h : o.lw (k + 1) s = some x) : o.right (s, k + 1) = some (wayV x (ltr (o.first k s))) := by
  simp [right, h]
theorem right_none {k : Nat} {s : Sp} (h : o.lw (k + 1) s = none) : o.right (s, k + 1) = none := by
  simp [right, h]
theorem Ok.begin {es : Ents} {op : List Std} (H : o.Ok es op) {s : Std} (hn : getA s es = none) (c : Nat) : o.Ok (putA s zw c es) (s :: op) ∧ o.Sub es (putA s zw c es) := by
  have hs : o.Sub es (putA s zw c es) := fun a v hr h => by
    rw [getA_put]
    split
    · rename_i e; subst e; rw [hn] at h; cases h
    · exact h
  refine ⟨⟨put_nodup H.1, fun a v h => ?_⟩, hs⟩
  rw [getA_put] at h
  split at h
  · rename_i e; cases h; exact .inr ⟨rfl, .inr (by rw [e]; simp)⟩
  · rcases H.2 a v h with ⟨h1, h2⟩ | ⟨h1, h2⟩
    · exact .inl ⟨h1, h2.sub hs⟩
    · exact .inr ⟨h1, h2.imp_right fun h => List.mem_cons_of_mem _ h⟩
theorem Ok.none {es : Ents} {op : List Std} {s : Std} (H : o.Ok es (s :: op)) (hn : o.right s = none) : o.Ok es op := by
  refine ⟨H.1, fun a v h => ?_⟩
  rcases H.2 a v h with h1 | ⟨h1, h2⟩
  · exact .inl h1
  · refine .inr ⟨h1, ?_⟩
    rcases h2 with h2 | h2
    · exact .inl h2
    · rcases List.mem_cons.1 h2 with rfl | h2
      · exact .inl hn
      · exact .inr h2
theorem Ok.done {es : Ents} {op : List Std} {s : Std} (H : o.Ok es (s :: op)) {v : Value} (hr : o.right s = some v) (hsc : o.has es (o.succ s)) (c : Nat) : o.Ok (putA s v c es) op ∧ o.Sub es (putA s v c es) ∧ o.has (putA s v c es) s := by
  have hs : o.Sub es (putA s v c es) := fun a u hu h => by
    rw [getA_put]
    split
    · rename_i e; subst e; rw [hr] at hu; exact hu
    · exact h
  refine ⟨⟨put_nodup H.1, fun a u h => ?_⟩, hs, .inr ⟨v, hr, by rw [getA_put, if_pos rfl]⟩⟩
  rw [getA_put] at h
  split at h
  · rename_i e; cases h; subst e; exact .inl ⟨hr, hsc.sub hs⟩
  · rename_i hne
    rcases H.2 a u h with ⟨h1, h2⟩ | ⟨h1, h2⟩
    · exact .inl ⟨h1, h2.sub hs⟩
    · refine .inr ⟨h1, h2.imp_right fun h => ?_⟩
      rcases List.mem_cons.1 h with h | h
      · exact absurd h hne
      · exact h
def Lt (a b : Std) : Prop := a.2 < b.2 ∨ (a.2 = b.2 ∧ a.1.1 + a.1.2 < b.1.1 + b.1.2)
theorem Lt.trans {a b c : Std} (x : Lt a b) (y : Lt b c) : Lt a c := by unfold Lt at *; omega
theorem Lt.ne {a b : Std} (x : Lt a b) : a ≠ b := by rintro rfl; unfold Lt at x; omega
theorem lt_C (s : Sp) (k : Nat) : Lt (o.C s, k) (s, k + 1) := .inl (Nat.lt_succ_self k)
theorem lt_W (ok : o.ok) {s : Sp} (h : o.In s) (hw : o.W s ≠ s) (k : Nat) : Lt (o.W s, k) (s, k) := .inr ⟨rfl, W_lt ok h hw⟩
end OV
end Go.Proofs.YtafemfjhflfdeaaDoor
end
section
set_option linter.unusedVariables false
set_option linter.unusedSimpArgs false
namespace Go.Eng
open Go
attribute [local semireducible] opSem opQS CallsW setD WP
inductive PT where
  | fin
  | quiet (i : Nat) (r : PT)
  | pure (i : Nat) (r : PT)
  | one (i : Nat) (r : PT)
  | keep (i : Nat) (r : PT)
  | fork (x y : Nat) (a b : PT)
  | fork2 (x y : Nat) (u v : Bool) (a b : PT)
  | fork3 (x y z : Nat) (u v w : Bool) (a b c : PT)
def PT.size : PT → Nat
  | .fin => 0
  | .quiet _ r | .pure _ r | .one _ r | .keep _ r => r.size + 1
  | .fork _ _ a _ => a.size + 1
  | .fork2 _ _ _ _ a _ => a.size + 1
  | .fork3 _ _ _ _ _ _ a _ _ => a.size + 1
def PT.G : PT → Nat → Bool
  | .fin, _ => true
  | .quiet _ r, j | .pure _ r, j | .keep _ r, j => r.G j
  | .one i r, j => !(i == j) && r.G j
  | .fork _ _ a b, j => a.G j && b.G j
  | .fork2 x y u v a b, j => (u || !(x == j)) && ((v || !(y == j)) && (a.G j && b.G j))
  | .fork3 x y z u v w a b c, j => (u || !(x == j)) && ((v || !(y == j)) && ((w || !(z == j)) && (a.G j && (b.G j && c.G j))))
section tree
variable {P : Program} {l : Option Nat} {R : Heap → Heap → Prop} {G : Nat → Bool}
theorem opD_any {all : List Oper} {i : Nat} {o : Oper} {e : Env} {d : List Deferred} {w1 : World} {Kx : Env → Heap → Prop} {Kf : Act → World → Prop} (hi : all[i]? = some o)
    (H : guardW o.guard all e (fun e => opW P o.op o.type e w1.heap (fun v h'' => (G i = true → R w1.heap h'') ∧ Kx (putE e o.dst v) h'')) (fun e => (G i = true → R w1.heap w1.heap) ∧ Kx (putE e o.dst undef) w1.heap)) (fin : ∀ e' w', Rest w1 w' → Kx e' w'.heap → Kf ⟨e'.toArray, d⟩ w') :
    opD P all.toArray i (fun a' w' => (G i = true → R w1.heap w'.heap) ∧ Rest w1 w' ∧ Kf a' w') ⟨e.toArray, d⟩ w1 := by
  have hi' : all.toArray[i]? = some o := by simpa using hi
  unfold opD
  simp only [hi']
  rcases guard_sound H o rfl with ⟨hw, hA⟩ | ⟨hw, hB⟩
  · simp only [hw, if_true]
    have h1 := opW_sound hA
    unfold opSem at h1
    refine ⟨h1.1, ?_⟩
    have h2 := h1.2 w1 rfl
    rw [eval_ev, execOp_only]
    have fin' : ∀ v w', Rest w1 w' → ((G i = true → R w1.heap w'.heap) ∧ Kx (putE e o.dst v) w'.heap) → (G i = true → R w1.heap w'.heap) ∧ Rest w1 w' ∧ Kf ((Act.mk e.toArray d).put o.dst v) w' := by
      intro v w' hr' hk
      refine ⟨hk.1, hr', ?_⟩
      rw [put_putE]
      exact fin _ _ hr' hk.2
    unfold semPost at h2
    unfold semPostW
    split at h2
    · exact ⟨fin' _ _ h2.2 h2.1, h2.2⟩
    · exact ⟨fin' _ _ h2.2 h2.1, h2.2⟩
    · exact ⟨h2.1, Calls.mono h2.2 fun x w'' ⟨v, hx, hv, hr''⟩ => ⟨v, hx, fin' v w'' (h2.1.trans hr'') hv, hr''⟩⟩
    · exact ⟨h2.1, RoundIn.mono h2.2 fun x w'' ⟨v, hx, hv, hr''⟩ => ⟨v, hx, fin' v w'' (h2.1.trans hr'') hv, hr''⟩⟩
    · exact h2.elim
  · simp only [hw]
    refine ⟨hB.1, Rest.refl _, ?_⟩
    rw [put_putE]
    exact fin _ _ (Rest.refl _) hB.2
def stO (P : Program) (all : List Oper) (o : Option Oper) (e : Env) (h : Heap) (K : Env → Heap → Prop) : Prop :=
  match o with
  | some o => guardW o.guard all e (fun e => opW P o.op o.type e h (fun v h' => K (putE e o.dst v) h')) (fun e => K (putE e o.dst undef) h)
  | none => False
def execT (P : Program) (R : Heap → Heap → Prop) (all : List Oper) : PT → Cont → Env → List Deferred → Heap → Prop
  | .fin, k, e, d, h => ∀ h', R h h' → k .normal e d h'
  | .quiet i rest, k, e, d, h => match all[i]? with
    | some o => guardW o.guard all e (fun e => opQW P R o.op o.type e h (fun v h' => execT P R all rest k (putE e o.dst v) d h')) (fun e => execT P R all rest k (putE e o.dst undef) d h)
    | none => False
  | .pure i rest, k, e, d, h => match all[i]? with
    | some o => guardW o.guard all e (fun e => opPW P o.op e h (fun v h' => execT P R all rest k (putE e o.dst v) d h')) (fun e => execT P R all rest k (putE e o.dst undef) d h)
    | none => False
  | .one i rest, k, e, d, h => ∀ h', R h h' → stO P all all[i]? e h' (fun e h'' => execT P R all rest k e d h'')
  | .keep i rest, k, e, d, h => ∀ h', R h h' → stO P all all[i]? e h' (fun e h'' => R h' h'' ∧ execT P R all rest k e d h'')
  | .fork x y a b, k, e, d, h => ∀ h', R h h' → stO P all all[x]? e h' (fun e h'' => R h' h'' ∧ execT P R all a k e d h'') ∧ stO P all all[y]? e h' (fun e h'' => R h' h'' ∧ execT P R all b k e d h'')
  | .fork2 x y u v a b, k, e, d, h => ∀ h', R h h' → stO P all all[x]? e h' (fun e h'' => (u = true → R h' h'') ∧ execT P R all a k e d h'') ∧ stO P all all[y]? e h' (fun e h'' => (v = true → R h' h'') ∧ execT P R all b k e d h'')
  | .fork3 x y z u v t a b c, k, e, d, h => ∀ h', R h h' → stO P all all[x]? e h' (fun e h'' => (u = true → R h' h'') ∧ execT P R all a k e d h'') ∧ stO P all all[y]? e h' (fun e h'' => (v = true → R h' h'') ∧ execT P R all b k e d h'') ∧ stO P all all[z]? e h' (fun e h'' => (t = true → R h' h'') ∧ execT P R all c k e d h'')
def okT (G : Nat → Bool) (all : List Oper) : PT → Array Bool → Bool
  | .fin, listed => (Region.ready .any all.toArray listed).isEmpty
  | .quiet i rest, listed => (Region.ready .any all.toArray listed).contains i && blkOk all listed i (blk all listed i all.length 0 []) &&
      ((List.range all.length).all fun j => j == i || listed.getD j true || (blk all listed i all.length 0 []).contains j || (G j && (match all[i]?, all[j]? with | some oi, some oj => oi.apart all.toArray oj | _, _ => true))) &&
      okT G all rest (listed.setIfInBounds i true)
  | .pure i rest, listed => (Region.ready .any all.toArray listed).contains i && blkOk all listed i (blk all listed i all.length 0 []) &&
      ((List.range all.length).all fun j => j == i || listed.getD j true || (blk all listed i all.length 0 []).contains j || (match all[i]?, all[j]? with | some oi, some oj => oi.apart all.toArray oj | _, _ => true)) &&
      okT G all rest (listed.setIfInBounds i true)
  | .one i rest, listed => !(G i) && decide (Region.ready .any all.toArray listed = [i]) && okT G all rest (listed.setIfInBounds i true)
  | .keep i rest, listed => decide (Region.ready .any all.toArray listed = [i]) && okT G all rest (listed.setIfInBounds i true)
  | .fork x y a b, listed => decide (Region.ready .any all.toArray listed = [x, y]) && (decide (a.size = b.size) && (okT G all a (listed.setIfInBounds x true) && okT G all b (listed.setIfInBounds y true)))
  | .fork2 x y u v a b, listed => (u || !(G x)) && ((v || !(G y)) && (decide (Region.ready .any all.toArray listed = [x, y]) && (decide (a.size = b.size) && (okT G all a (listed.setIfInBounds x true) && okT G all b (listed.setIfInBounds y true)))))
  | .fork3 x y z u v t a b c, listed => (u || !(G x)) && ((v || !(G y)) && ((t || !(G z)) && (decide (Region.ready .any all.toArray listed = [x, y, z]) && (decide (a.size = b.size) && (decide (a.size = c.size) && (okT G all a (listed.setIfInBounds x true) && (okT G all b (listed.setIfInBounds y true) && okT G all c (listed.setIfInBounds z true))))))))
theorem stO_sound {all : List Oper} {i : Nat} {e : Env} {d : List Deferred} {w1 : World} {Kx : Env → Heap → Prop} {Kf : Act → World → Prop} (H : stO P all all[i]? e w1.heap (fun e h'' => (G i = true → R w1.heap h'') ∧ Kx e h'')) (fin : ∀ e' w', Rest w1 w' → Kx e' w'.heap → Kf ⟨e'.toArray, d⟩ w') :
    opD P all.toArray i (fun a' w' => (G i = true → R w1.heap w'.heap) ∧ Rest w1 w' ∧ Kf a' w') ⟨e.toArray, d⟩ w1 := by
  cases hi : all[i]? with
  | none => rw [hi] at H; exact H.elim
  | some o => rw [hi] at H; exact opD_any (Kx := Kx) hi H fin
theorem guardW_mono {gd : Option (Nat × Bool)} {all : List Oper} {e : Env} {A A' B B' : Env → Prop} (ha : ∀ e, A e → A' e) (hb : ∀ e, B e → B' e) (H : guardW gd all e A B) : guardW gd all e A' B' := by
  cases gd with
  | none => unfold guardW at H ⊢; exact ha _ H
  | some p =>
    obtain ⟨j, want⟩ := p
    unfold guardW at H ⊢
    simp only at H ⊢
    cases hj : gslot all j with
    | none => simp only [hj] at H ⊢; exact hb _ H
    | some t =>
      simp only [hj] at H ⊢
      unfold boolW at H ⊢
      cases hv : e.getD t undef with
      | bool b =>
        simp only [hv] at H ⊢
        refine ⟨fun h1 => ?_, fun h1 => ?_⟩
        · have h2 := H.1 h1
          by_cases hw : true = want
          · rw [if_pos hw] at h2 ⊢; exact ha _ h2
          · rw [if_neg hw] at h2 ⊢; exact hb _ h2
        · have h2 := H.2 h1
          by_cases hw : false = want
          · rw [if_pos hw] at h2 ⊢; exact ha _ h2
          · rw [if_neg hw] at h2 ⊢; exact hb _ h2
      | _ => first | (simp only [hv] at H ⊢; done) | (simp only [hv] at H ⊢; exact hb _ H)
theorem stO_mono {all : List Oper} {o : Option Oper} {e : Env} {h : Heap} {K K' : Env → Heap → Prop} (H : stO P all o e h K) (hk : ∀ e h, K e h → K' e h) : stO P all o e h K' := by
  cases o with
  | none => exact H.elim
  | some o => exact guardW_mono (fun e he => opW_mono (fun v h hv => hk _ _ hv) he) (fun e he => hk _ _ he) H
theorem execT_sound (hS : Sta R) {all : List Oper} {k : Cont} {w0 : World} (hsel : Region.noSelect all.toArray = true) : ∀ (t : PT) (listed : Array Bool) (e : Env) (d : List Deferred) (w : World), Rest w0 w →
    okT G all t listed = true → execT P R all t k e d w.heap →
    anyR P all.toArray R G (fun a w' => k .normal a.tmps.toList a.defers w'.heap ∧ Rest w0 w') t.size listed ⟨e.toArray, d⟩ w
  | .fin, listed, e, d, w, hr, hok, H => fun w1 hr1 hR1 => by
    refine ⟨by simpa [okT] using hok, ?_, hr.trans hr1⟩
    simpa using H _ hR1
  | .quiet i rest, listed, e, d, w, hr, hok, H => by
    simp only [okT, Bool.and_eq_true] at hok
    obtain ⟨⟨⟨hready, hbk⟩, hG⟩, hok⟩ := hok
    unfold execT at H
    cases hi : all[i]? with
    | none => simp [hi] at H
    | some o =>
      simp only [hi] at H
      have hi' : all.toArray[i]? = some o := by simpa using hi
      obtain ⟨Bk, hBke⟩ : ∃ Bk, Bk = blk all listed i all.length 0 [] := ⟨_, rfl⟩
      rw [← hBke] at hbk hG
      have hb1 : ∀ j ∈ Bk, listed.getD j true = false := fun j hj => by
        have := List.all_eq_true.1 hbk j hj
        simp only [Bool.and_eq_true, Bool.not_eq_true'] at this
        exact this.1.1
      have hb2 : ∀ j ∈ Bk, j ≠ i ∧ ∀ oj, all.toArray[j]? = some oj → ∃ e ∈ oj.after, Region.binds .any e = true ∧ (e.on = i ∨ e.on ∈ Bk) := fun j hj => by
        have := List.all_eq_true.1 hbk j hj
        simp only [Bool.and_eq_true, bne_iff_ne, ne_eq] at this
        refine ⟨this.1.2, fun oj hoj => ?_⟩
        have hj2 : all[j]? = some oj := by simpa using hoj
        have h2 := this.2
        rw [hj2] at h2
        obtain ⟨e, he, hb⟩ := Array.any_eq_true'.1 h2
        simp only [Bool.and_eq_true, Bool.or_eq_true, beq_iff_eq, List.contains_eq_mem, decide_eq_true_eq] at hb
        exact ⟨e, he, hb.1, hb.2⟩
      have hfr : ∀ j oj, all.toArray[j]? = some oj → j ≠ i → listed.getD j true = false → j ∉ Bk → o.apart all.toArray oj = true ∧ G j = true := by
        intro j oj hj hne hun hno
        have hlt : j < all.length := by have := (Array.getElem?_eq_some_iff.1 hj).1; simpa using this
        have := List.all_eq_true.1 hG j (List.mem_range.2 hlt)
        have hj2 : all[j]? = some oj := by simpa using hj
        simp only [hi, hj2, Bool.or_eq_true, Bool.and_eq_true, beq_iff_eq, hne, false_or, hun, Bool.false_eq_true, List.contains_eq_mem, decide_eq_true_eq, hno] at this
        exact ⟨this.2, this.1⟩
      have hrdy : i ∈ Region.ready .any all.toArray listed := by simpa using hready
      rcases guard_sound H o rfl with ⟨hw, hA⟩ | ⟨hw, hB⟩
      · have hq := opQW_sound hS hA
        unfold opQS at hq
        obtain ⟨v, hv, hk⟩ := hq
        refine anyR_first hS hi' (Region.noSelect_spec hsel) Bk hb2 rest.size listed _ w hfr hb1 hrdy (v := v) ?_ ?_
        · refine .inl ⟨hw, fun w' hr' hR' => ?_⟩
          have h1 := hv _ hR'
          refine ⟨h1.1, ?_⟩
          have h2 := h1.2 w' rfl
          rw [eval_ev, execOp_only]
          unfold semPost at h2
          unfold semPostW
          split at h2
          · exact h2
          · exact h2
          · exact h2
          · exact h2
          · exact h2.elim
        · rw [put_putE]
          exact execT_sound hS hsel rest _ _ d w hr hok hk
      · refine anyR_first hS hi' (Region.noSelect_spec hsel) Bk hb2 rest.size listed _ w hfr hb1 hrdy (v := undef) (.inr ⟨hw, rfl⟩) ?_
        rw [put_putE]
        exact execT_sound hS hsel rest _ _ d w hr hok hB
  | .pure i rest, listed, e, d, w, hr, hok, H => by
    simp only [okT, Bool.and_eq_true] at hok
    obtain ⟨⟨⟨hready, hbk⟩, hG⟩, hok⟩ := hok
    unfold execT at H
    cases hi : all[i]? with
    | none => simp [hi] at H
    | some o =>
      simp only [hi] at H
      have hi' : all.toArray[i]? = some o := by simpa using hi
      obtain ⟨Bk, hBke⟩ : ∃ Bk, Bk = blk all listed i all.length 0 [] := ⟨_, rfl⟩
      rw [← hBke] at hbk hG
      have hb1 : ∀ j ∈ Bk, listed.getD j true = false := fun j hj => by
        have := List.all_eq_true.1 hbk j hj
        simp only [Bool.and_eq_true, Bool.not_eq_true'] at this
        exact this.1.1
      have hb2 : ∀ j ∈ Bk, j ≠ i ∧ ∀ oj, all.toArray[j]? = some oj → ∃ e ∈ oj.after, Region.binds .any e = true ∧ (e.on = i ∨ e.on ∈ Bk) := fun j hj => by
        have := List.all_eq_true.1 hbk j hj
        simp only [Bool.and_eq_true, bne_iff_ne, ne_eq] at this
        refine ⟨this.1.2, fun oj hoj => ?_⟩
        have hj2 : all[j]? = some oj := by simpa using hoj
        have h2 := this.2
        rw [hj2] at h2
        obtain ⟨e, he, hb⟩ := Array.any_eq_true'.1 h2
        simp only [Bool.and_eq_true, Bool.or_eq_true, beq_iff_eq, List.contains_eq_mem, decide_eq_true_eq] at hb
        exact ⟨e, he, hb.1, hb.2⟩
      have hfr : ∀ j oj, all.toArray[j]? = some oj → j ≠ i → listed.getD j true = false → j ∉ Bk → o.apart all.toArray oj = true := by
        intro j oj hj hne hun hno
        have hlt : j < all.length := by have := (Array.getElem?_eq_some_iff.1 hj).1; simpa using this
        have := List.all_eq_true.1 hG j (List.mem_range.2 hlt)
        have hj2 : all[j]? = some oj := by simpa using hj
        simp only [hi, hj2, Bool.or_eq_true, Bool.and_eq_true, beq_iff_eq, hne, false_or, hun, Bool.false_eq_true, List.contains_eq_mem, decide_eq_true_eq, hno] at this
        exact this
      have hrdy : i ∈ Region.ready .any all.toArray listed := by simpa using hready
      rcases guard_sound H o rfl with ⟨hw, hA⟩ | ⟨hw, hB⟩
      · obtain ⟨hd, v, hk, hv⟩ := opPW_sound (ty := o.type) hA
        refine anyR_firstP hS hi' (Region.noSelect_spec hsel) Bk hb2 rest.size listed _ w hfr hb1 hrdy (v := v) ?_ ?_
        · refine .inl ⟨hw, fun w' hr' => ⟨hd, ?_⟩⟩
          rw [eval_ev, execOp_only, hv w']
          exact ⟨⟨rfl, rfl⟩, Rest.refl _⟩
        · rw [put_putE]
          exact execT_sound hS hsel rest _ _ d w hr hok hk
      · refine anyR_firstP hS hi' (Region.noSelect_spec hsel) Bk hb2 rest.size listed _ w hfr hb1 hrdy (v := undef) (.inr ⟨hw, rfl⟩) ?_
        rw [put_putE]
        exact execT_sound hS hsel rest _ _ d w hr hok hB
  | .one i rest, listed, e, d, w, hr, hok, H => by
    intro w1 hr1 hR1
    simp only [okT, Bool.and_eq_true, decide_eq_true_eq, Bool.not_eq_true'] at hok
    obtain ⟨⟨hG, h1⟩, hok⟩ := hok
    rw [h1]
    refine ⟨fun h => by simp at h, fun q hq => ?_⟩
    have hq : q = i := by simpa using hq
    subst hq
    refine stO_sound (Kx := fun e h'' => execT P R all rest k e d h'') (stO_mono (H _ hR1) fun e h hk => ⟨fun hh => (by rw [hG] at hh; cases hh), hk⟩) fun e2 w2 hr2 K2 => ?_
    exact execT_sound hS hsel rest _ _ d w2 (hr.trans (hr1.trans hr2)) hok K2
  | .keep i rest, listed, e, d, w, hr, hok, H => by
    intro w1 hr1 hR1
    simp only [okT, Bool.and_eq_true, decide_eq_true_eq] at hok
    obtain ⟨h1, hok⟩ := hok
    rw [h1]
    refine ⟨fun h => by simp at h, fun q hq => ?_⟩
    have hq : q = i := by simpa using hq
    subst hq
    refine stO_sound (Kx := fun e h'' => execT P R all rest k e d h'') (stO_mono (H _ hR1) fun e h hk => ⟨fun _ => hk.1, hk.2⟩) fun e2 w2 hr2 K2 => ?_
    exact execT_sound hS hsel rest _ _ d w2 (hr.trans (hr1.trans hr2)) hok K2
  | .fork x y a b, listed, e, d, w, hr, hok, H => by
    intro w1 hr1 hR1
    simp only [okT, Bool.and_eq_true, decide_eq_true_eq] at hok
    obtain ⟨h1, h2, o1, o2⟩ := hok
    obtain ⟨A, B⟩ := H _ hR1
    rw [h1]
    refine ⟨fun h => by simp at h, fun q hq => ?_⟩
    have hq : q = x ∨ q = y := by simpa using hq
    rcases hq with rfl | rfl
    · refine stO_sound (Kx := fun e h'' => execT P R all a k e d h'') (stO_mono A fun e h hk => ⟨fun _ => hk.1, hk.2⟩) fun e2 w2 hr2 K2 => ?_
      exact execT_sound hS hsel a _ _ d w2 (hr.trans (hr1.trans hr2)) o1 K2
    · refine stO_sound (Kx := fun e h'' => execT P R all b k e d h'') (stO_mono B fun e h hk => ⟨fun _ => hk.1, hk.2⟩) fun e2 w2 hr2 K2 => ?_
      have := execT_sound (w0 := w0) hS hsel b _ _ d w2 (hr.trans (hr1.trans hr2)) o2 K2
      rw [← h2] at this
      exact this
  | .fork2 x y u v a b, listed, e, d, w, hr, hok, H => by
    intro w1 hr1 hR1
    simp only [okT, Bool.and_eq_true, decide_eq_true_eq, Bool.or_eq_true, Bool.not_eq_true'] at hok
    obtain ⟨gx, gy, h1, h2, o1, o2⟩ := hok
    obtain ⟨A, B⟩ := H _ hR1
    rw [h1]
    refine ⟨fun h => by simp at h, fun q hq => ?_⟩
    have hq : q = x ∨ q = y := by simpa using hq
    rcases hq with rfl | rfl
    · refine stO_sound (Kx := fun e h'' => execT P R all a k e d h'') (stO_mono A fun e h hk => ⟨fun hh => hk.1 (gx.resolve_right (by rw [hh]; decide)), hk.2⟩) fun e2 w2 hr2 K2 => ?_
      exact execT_sound hS hsel a _ _ d w2 (hr.trans (hr1.trans hr2)) o1 K2
    · refine stO_sound (Kx := fun e h'' => execT P R all b k e d h'') (stO_mono B fun e h hk => ⟨fun hh => hk.1 (gy.resolve_right (by rw [hh]; decide)), hk.2⟩) fun e2 w2 hr2 K2 => ?_
      have := execT_sound (w0 := w0) hS hsel b _ _ d w2 (hr.trans (hr1.trans hr2)) o2 K2
      rw [← h2] at this
      exact this
  | .fork3 x y z u v t a b c, listed, e, d, w, hr, hok, H => by
    intro w1 hr1 hR1
    simp only [okT, Bool.and_eq_true, decide_eq_true_eq, Bool.or_eq_true, Bool.not_eq_true'] at hok
    obtain ⟨gx, gy, gz, h1, h2, h3, o1, o2, o3⟩ := hok
    obtain ⟨A, B, C⟩ := H _ hR1
    rw [h1]
    refine ⟨fun h => by simp at h, fun q hq => ?_⟩
    have hq : q = x ∨ q = y ∨ q = z := by simpa using hq
    rcases hq with rfl | rfl | rfl
    · refine stO_sound (Kx := fun e h'' => execT P R all a k e d h'') (stO_mono A fun e h hk => ⟨fun hh => hk.1 (gx.resolve_right (by rw [hh]; decide)), hk.2⟩) fun e2 w2 hr2 K2 => ?_
      exact execT_sound hS hsel a _ _ d w2 (hr.trans (hr1.trans hr2)) o1 K2
    · refine stO_sound (Kx := fun e h'' => execT P R all b k e d h'') (stO_mono B fun e h hk => ⟨fun hh => hk.1 (gy.resolve_right (by rw [hh]; decide)), hk.2⟩) fun e2 w2 hr2 K2 => ?_
      have := execT_sound (w0 := w0) hS hsel b _ _ d w2 (hr.trans (hr1.trans hr2)) o2 K2
      rw [← h2] at this
      exact this
    · refine stO_sound (Kx := fun e h'' => execT P R all c k e d h'') (stO_mono C fun e h hk => ⟨fun hh => hk.1 (gz.resolve_right (by rw [hh]; decide)), hk.2⟩) fun e2 w2 hr2 K2 => ?_
      have := execT_sound (w0 := w0) hS hsel c _ _ d w2 (hr.trans (hr1.trans hr2)) o3 K2
      rw [← h3] at this
      exact this
theorem WP_tree (hm : P.follows .mixedOrders = true) (hS : Sta R) {id : Nat} {all : List Oper} {k : Cont} {e : Env} {d : List Deferred} {h : Heap} (t : PT)
    (hsel : Region.noSelect all.toArray = true) (hlen : t.size = all.length) (hok : okT t.G all t (Array.replicate all.length false) = true)
    (H : execT P R all t k e d h) : WP l P (.region id all.toArray true) k e d h := by
  unfold WP
  intro w hw
  subst hw
  refine wpIn_region_any hm ?_
  have h1 := execT_sound (w0 := w) (G := t.G) hS hsel t _ e d { w with drawn := w.drawn + 1 } ⟨rfl, rfl, rfl⟩ hok H
  rw [hlen] at h1
  have h2 := wpAny_of_anyR (l := l) (Q' := fun x a w' => k x a.tmps.toList a.defers w'.heap ∧ Rest w w') hS (fun a w' hq => hq) _ _ _ _ h1
  simpa using h2
variable {all : List Oper} {rest : PT} {k : Cont} {e : Env} {d : List Deferred} {h : Heap} {dst : Option Tmp} {op : Op} {ty : TypeId} {pos : String} {after : Array Edge} {i x y : Nat} {a b : PT}
def setT (P : Program) (R : Heap → Heap → Prop) (all : List Oper) (rest : PT) (k : Cont) (dst : Option Tmp) (e : Env) (d : List Deferred) : Value → Heap → Prop := fun v h => execT P R all rest k (putE e dst v) d h
theorem setT_eq {v : Value} : setT P R all rest k dst e d v h = execT P R all rest k (putE e dst v) d h := eqi rfl
def stT (P : Program) (R : Heap → Heap → Prop) (o : Option Oper) (all : List Oper) (rest : PT) (k : Cont) (e : Env) (d : List Deferred) (h : Heap) : Prop :=
  match o with
  | some o => guardW o.guard all e (fun e => opQW P R o.op o.type e h (fun v h' => setT P R all rest k o.dst e d v h')) (fun e => execT P R all rest k (putE e o.dst undef) d h)
  | none => False
theorem execT_quiet : execT P R all (.quiet i rest) k e d h = stT P R all[i]? all rest k e d h := by simp only [execT, stT, setT]
theorem stT_plain : stT P R (some ⟨dst, op, ty, pos, after, none⟩) all rest k e d h = opQW P R op ty e h (setT P R all rest k dst e d) := by simp only [stT, guardW]
def stTp (P : Program) (R : Heap → Heap → Prop) (o : Option Oper) (all : List Oper) (rest : PT) (k : Cont) (e : Env) (d : List Deferred) (h : Heap) : Prop :=
  match o with
  | some o => guardW o.guard all e (fun e => opPW P o.op e h (fun v h' => setT P R all rest k o.dst e d v h')) (fun e => execT P R all rest k (putE e o.dst undef) d h)
  | none => False
theorem execT_pure : execT P R all (.pure i rest) k e d h = stTp P R all[i]? all rest k e d h := by simp only [execT, stTp, setT]
theorem stTp_plain : stTp P R (some ⟨dst, op, ty, pos, after, none⟩) all rest k e d h = opPW P op e h (setT P R all rest k dst e d) := by simp only [stTp, guardW]
theorem stO_plain {K : Env → Heap → Prop} : stO P all (some ⟨dst, op, ty, pos, after, none⟩) e h K = opW P op ty e h (fun v h' => K (putE e dst v) h') := by simp only [stO, guardW]
def gtT (P : Program) (R : Heap → Heap → Prop) (v : Value) (s : Tmp) (want : Bool) (op : Op) (ty : TypeId) (all : List Oper) (rest : PT) (k : Cont) (dst : Option Tmp) (e : Env) (d : List Deferred) (h : Heap) : Prop :=
  boolW v (fun b => if b = want then opQW P R op ty (e.set s (.bool b)) h (setT P R all rest k dst (e.set s (.bool b)) d) else execT P R all rest k (putE (e.set s (.bool b)) dst undef) d h) (execT P R all rest k (putE e dst undef) d h)
def gtTo (P : Program) (R : Heap → Heap → Prop) (s : Option Tmp) (want : Bool) (op : Op) (ty : TypeId) (all : List Oper) (rest : PT) (k : Cont) (dst : Option Tmp) (e : Env) (d : List Deferred) (h : Heap) : Prop :=
  match s with | some s => gtT P R (e.getD s undef) s want op ty all rest k dst e d h | none => execT P R all rest k (putE e dst undef) d h
theorem stT_guard {j : Nat} {want : Bool} : stT P R (some ⟨dst, op, ty, pos, after, some (j, want)⟩) all rest k e d h = gtTo P R (gslot all j) want op ty all rest k dst e d h := by
  simp only [stT, guardW, gtTo]; cases gslot all j <;> rfl
theorem gtTo_some {s : Tmp} {want : Bool} : gtTo P R (some s) want op ty all rest k dst e d h = gtT P R (e.getD s undef) s want op ty all rest k dst e d h := eqi rfl
theorem gtT_tt {s : Tmp} : gtT P R (.bool true) s true op ty all rest k dst e d h = opQW P R op ty (e.set s (.bool true)) h (setT P R all rest k dst (e.set s (.bool true)) d) := by simp [gtT, boolW]
theorem gtT_ff {s : Tmp} : gtT P R (.bool false) s false op ty all rest k dst e d h = opQW P R op ty (e.set s (.bool false)) h (setT P R all rest k dst (e.set s (.bool false)) d) := by simp [gtT, boolW]
theorem gtT_tf {s : Tmp} : gtT P R (.bool true) s false op ty all rest k dst e d h = execT P R all rest k (putE (e.set s (.bool true)) dst undef) d h := by simp [gtT, boolW]
theorem gtT_ft {s : Tmp} : gtT P R (.bool false) s true op ty all rest k dst e d h = execT P R all rest k (putE (e.set s (.bool false)) dst undef) d h := by simp [gtT, boolW]
theorem gtT_undef {s : Tmp} {w : Bool} {vs : Array Value} : gtT P R (.tuple vs) s w op ty all rest k dst e d h = execT P R all rest k (putE e dst undef) d h := by simp [gtT, boolW]
def gtP (P : Program) (R : Heap → Heap → Prop) (v : Value) (s : Tmp) (want : Bool) (op : Op) (all : List Oper) (rest : PT) (k : Cont) (dst : Option Tmp) (e : Env) (d : List Deferred) (h : Heap) : Prop :=
  boolW v (fun b => if b = want then opPW P op (e.set s (.bool b)) h (setT P R all rest k dst (e.set s (.bool b)) d) else execT P R all rest k (putE (e.set s (.bool b)) dst undef) d h) (execT P R all rest k (putE e dst undef) d h)
def gtPo (P : Program) (R : Heap → Heap → Prop) (s : Option Tmp) (want : Bool) (op : Op) (all : List Oper) (rest : PT) (k : Cont) (dst : Option Tmp) (e : Env) (d : List Deferred) (h : Heap) : Prop :=
  match s with | some s => gtP P R (e.getD s undef) s want op all rest k dst e d h | none => execT P R all rest k (putE e dst undef) d h
theorem stTp_guard {j : Nat} {want : Bool} : stTp P R (some ⟨dst, op, ty, pos, after, some (j, want)⟩) all rest k e d h = gtPo P R (gslot all j) want op all rest k dst e d h := by
  simp only [stTp, guardW, gtPo]; cases gslot all j <;> rfl
theorem gtPo_some {s : Tmp} {want : Bool} : gtPo P R (some s) want op all rest k dst e d h = gtP P R (e.getD s undef) s want op all rest k dst e d h := eqi rfl
theorem gtP_tt {s : Tmp} : gtP P R (.bool true) s true op all rest k dst e d h = opPW P op (e.set s (.bool true)) h (setT P R all rest k dst (e.set s (.bool true)) d) := by simp [gtP, boolW]
theorem gtP_ff {s : Tmp} : gtP P R (.bool false) s false op all rest k dst e d h = opPW P op (e.set s (.bool false)) h (setT P R all rest k dst (e.set s (.bool false)) d) := by simp [gtP, boolW]
theorem gtP_tf {s : Tmp} : gtP P R (.bool true) s false op all rest k dst e d h = execT P R all rest k (putE (e.set s (.bool true)) dst undef) d h := by simp [gtP, boolW]
theorem gtP_ft {s : Tmp} : gtP P R (.bool false) s true op all rest k dst e d h = execT P R all rest k (putE (e.set s (.bool false)) dst undef) d h := by simp [gtP, boolW]
theorem gtP_undef {s : Tmp} {w : Bool} {vs : Array Value} : gtP P R (.tuple vs) s w op all rest k dst e d h = execT P R all rest k (putE e dst undef) d h := by simp [gtP, boolW]
def gtO (P : Program) (v : Value) (s : Tmp) (want : Bool) (op : Op) (ty : TypeId) (dst : Option Tmp) (e : Env) (h : Heap) (K : Env → Heap → Prop) : Prop :=
  boolW v (fun b => if b = want then opW P op ty (e.set s (.bool b)) h (fun v h' => K (putE (e.set s (.bool b)) dst v) h') else K (putE (e.set s (.bool b)) dst undef) h) (K (putE e dst undef) h)
def gtOo (P : Program) (s : Option Tmp) (want : Bool) (op : Op) (ty : TypeId) (dst : Option Tmp) (e : Env) (h : Heap) (K : Env → Heap → Prop) : Prop :=
  match s with | some s => gtO P (e.getD s undef) s want op ty dst e h K | none => K (putE e dst undef) h
theorem stO_guard {j : Nat} {want : Bool} {K : Env → Heap → Prop} : stO P all (some ⟨dst, op, ty, pos, after, some (j, want)⟩) e h K = gtOo P (gslot all j) want op ty dst e h K := by
  simp only [stO, guardW, gtOo]; cases gslot all j <;> rfl
theorem gtOo_some {s : Tmp} {want : Bool} {K : Env → Heap → Prop} : gtOo P (some s) want op ty dst e h K = gtO P (e.getD s undef) s want op ty dst e h K := eqi rfl
theorem gtO_tt {s : Tmp} {K : Env → Heap → Prop} : gtO P (.bool true) s true op ty dst e h K = opW P op ty (e.set s (.bool true)) h (fun v h' => K (putE (e.set s (.bool true)) dst v) h') := by simp [gtO, boolW]
theorem gtO_ff {s : Tmp} {K : Env → Heap → Prop} : gtO P (.bool false) s false op ty dst e h K = opW P op ty (e.set s (.bool false)) h (fun v h' => K (putE (e.set s (.bool false)) dst v) h') := by simp [gtO, boolW]
theorem gtO_tf {s : Tmp} {K : Env → Heap → Prop} : gtO P (.bool true) s false op ty dst e h K = K (putE (e.set s (.bool true)) dst undef) h := by simp [gtO, boolW]
theorem gtO_ft {s : Tmp} {K : Env → Heap → Prop} : gtO P (.bool false) s true op ty dst e h K = K (putE (e.set s (.bool false)) dst undef) h := by simp [gtO, boolW]
theorem gtO_undef {s : Tmp} {w : Bool} {vs : Array Value} {K : Env → Heap → Prop} : gtO P (.tuple vs) s w op ty dst e h K = K (putE e dst undef) h := by simp [gtO, boolW]
set_option linter.defProp false
def treeS := And.intro (And.intro (And.intro @execT_quiet @execT_pure) (And.intro (And.intro @stT_plain @stTp_plain) (And.intro (And.intro @stT_guard @stTp_guard) (And.intro @stO_plain @stO_guard))))
  (And.intro (And.intro (And.intro @gtTo_some @gtPo_some) (And.intro @gtOo_some @setT_eq)) (And.intro (And.intro (And.intro @gtT_tt @gtT_ff) (And.intro @gtT_tf (And.intro @gtT_ft @gtT_undef))) (And.intro (And.intro (And.intro @gtP_tt @gtP_ff) (And.intro @gtP_tf (And.intro @gtP_ft @gtP_undef))) (And.intro (And.intro @gtO_tt @gtO_ff) (And.intro @gtO_tf (And.intro @gtO_ft @gtO_undef))))))
theorem execT_fin (H : ∀ h', R h h' → k .normal e d h') : execT P R all .fin k e d h := H
theorem execT_one (H : ∀ h', R h h' → stO P all all[i]? e h' (fun e h'' => execT P R all rest k e d h'')) : execT P R all (.one i rest) k e d h := H
theorem execT_keep (H : ∀ h', R h h' → stO P all all[i]? e h' (fun e h'' => R h' h'' ∧ execT P R all rest k e d h'')) : execT P R all (.keep i rest) k e d h := H
theorem execT_fork (H : ∀ h', R h h' → stO P all all[x]? e h' (fun e h'' => R h' h'' ∧ execT P R all a k e d h'') ∧ stO P all all[y]? e h' (fun e h'' => R h' h'' ∧ execT P R all b k e d h'')) : execT P R all (.fork x y a b) k e d h := H
theorem execT_fork2 {u v : Bool} (H : ∀ h', R h h' → stO P all all[x]? e h' (fun e h'' => (u = true → R h' h'') ∧ execT P R all a k e d h'') ∧ stO P all all[y]? e h' (fun e h'' => (v = true → R h' h'') ∧ execT P R all b k e d h'')) : execT P R all (.fork2 x y u v a b) k e d h := H
theorem eqh {p : Heap → Prop} (H : p h) : ∀ h', EqH h h' → p h' := fun h' hh => by rw [show h' = h from hh]; exact H
theorem execT_finE (H : k .normal e d h) : execT P EqH all .fin k e d h := eqh H
theorem execT_oneE (H : stO P all all[i]? e h (fun e h'' => execT P EqH all rest k e d h'')) : execT P EqH all (.one i rest) k e d h := eqh (p := fun h => stO P all all[i]? e h (fun e h'' => execT P EqH all rest k e d h'')) H
theorem execT_fork2E {u v : Bool} (A : stO P all all[x]? e h (fun e h'' => (u = true → EqH h h'') ∧ execT P EqH all a k e d h'')) (B : stO P all all[y]? e h (fun e h'' => (v = true → EqH h h'') ∧ execT P EqH all b k e d h'')) : execT P EqH all (.fork2 x y u v a b) k e d h :=
  eqh (p := fun h => stO P all all[x]? e h (fun e h'' => (u = true → EqH h h'') ∧ execT P EqH all a k e d h'') ∧ stO P all all[y]? e h (fun e h'' => (v = true → EqH h h'') ∧ execT P EqH all b k e d h'')) ⟨A, B⟩
end tree
section fresh
variable {P : Program} {h : Heap} {er : Env} {ty : TypeId}
end fresh
end Go.Eng
end
