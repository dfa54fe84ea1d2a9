/- Texts joined by pack.py: lemmas for YtmgkeeefbfefgaaLists. No condition. -/
import Derived.Test.YtmgkeeefbfefgaaPE4
import Derived.Laws.CopyRow
set_option linter.unusedSimpArgs false
set_option linter.unusedVariables false
set_option linter.defProp false
section
set_option linter.unusedVariables false
set_option linter.unusedSimpArgs false
namespace Go.Eng
open Go
theorem Upd.trans {a b c : Heap} {g : Nat} (x : Upd a b g) (y : Upd b c g) : Upd a c g := ⟨y.size.trans x.size, fun i hi => (y.old i hi).trans (x.old i hi)⟩
theorem Upd.refl (a : Heap) (g : Nat) : Upd a a g := ⟨rfl, fun _ _ => rfl⟩
section apps
variable {P : Program} {h0 : Nat} {h : Heap} {er : Env} {ty : TypeId}
structure OwnI (h0 : Nat) (h : Heap) (el : TypeId) (a : Option Addr) (len cap : Nat) (xs : List Int) : Prop where
  ln : len = xs.length
  ok : (a = none ∧ len = 0 ∧ cap = 0) ∨ ∃ g cur, a = some ⟨g, 0, none⟩ ∧ h0 ≤ g ∧ h[g]? = some (.cells cur el (0, 0)) ∧ cap ≤ cur.size ∧ len ≤ cap ∧ cur.toList.take len = ints xs
theorem OwnI.nil (h0 : Nat) (h : Heap) (el : TypeId) : OwnI h0 h el none 0 0 [] := ⟨rfl, .inl ⟨rfl, rfl, rfl⟩⟩
theorem OwnI.ints {el : TypeId} {a : Option Addr} {len cap : Nat} {xs : List Int} (O : OwnI h0 h el a len cap xs) : IntsV h a len xs := by
  refine ⟨O.ln, ?_⟩
  rcases O.ok with ⟨rfl, h1, _⟩ | ⟨g, cur, rfl, h1, h2, h3, h4, h5⟩
  · left
    have := O.ln
    have : xs = [] := List.length_eq_zero_iff.1 (by omega)
    simp [this, Eng.ints]
  · right
    have hl := O.ln
    refine ⟨g, 0, cur, el, (0, 0), rfl, h2, by rw [ints_length]; omega, by rw [ints_length, List.drop_zero, ← hl]; exact h5⟩
theorem OwnI.cap {el : TypeId} {a : Option Addr} {len cap : Nat} {xs : List Int} (O : OwnI h0 h el a len cap xs) : len ≤ cap := by
  rcases O.ok with ⟨_, h1, h2⟩ | ⟨g, cur, _, _, _, _, h4, _⟩ <;> omega
theorem OwnI.keep {el : TypeId} {a : Option Addr} {len cap : Nat} {xs : List Int} (O : OwnI h0 h el a len cap xs) {h' : Heap} (hk : ∀ p, a = some p → h'[p.block]? = h[p.block]?) : OwnI h0 h' el a len cap xs := by
  refine ⟨O.ln, ?_⟩
  rcases O.ok with h1 | ⟨g, cur, rfl, h1, h2, h3⟩
  · exact .inl h1
  · exact .inr ⟨g, cur, rfl, h1, (hk _ rfl).trans h2, h3⟩
theorem OwnI.lt {el : TypeId} {a : Option Addr} {len cap : Nat} {xs : List Int} (O : OwnI h0 h el a len cap xs) {p : Addr} (hp : a = some p) : p.block < h.size ∧ h0 ≤ p.block := by
  rcases O.ok with ⟨h1, _⟩ | ⟨g, cur, h1, h2, h3, h4⟩
  · rw [h1] at hp; cases hp
  · rw [h1] at hp; cases hp; exact ⟨lt_of_get h3, h2⟩
theorem OwnI.ext {el : TypeId} {a : Option Addr} {len cap : Nat} {xs : List Int} (O : OwnI h0 h el a len cap xs) {h' : Heap} (x : Ext h h') : OwnI h0 h' el a len cap xs := O.keep fun p hp => x.old _ (O.lt hp).1
structure App (h h' : Heap) (a a' : Option Addr) : Prop where
  size : h.size ≤ h'.size
  old : ∀ c, c < h.size → (∀ p, a = some p → p.block ≠ c) → h'[c]? = h[c]?
  to : ∀ p, a' = some p → (∃ q, a = some q ∧ q.block = p.block) ∨ h.size ≤ p.block
theorem App.ext {el : TypeId} {a a' : Option Addr} {len cap : Nat} {xs : List Int} {h' : Heap} (A : App h h' a a') (O : OwnI h0 h el a len cap xs) {h1 : Heap} (x : Ext h1 h) (hl : h1.size ≤ h0) : Ext h1 h' :=
  ⟨Nat.le_trans x.size A.size, fun c hc => (A.old c (Nat.lt_of_lt_of_le hc x.size) fun p hp heq => by have := (O.lt hp).2; omega).trans (x.old c hc)⟩
theorem firstC {w : World} {b : Option Addr} {m c k : Nat} {ys : List Int} (H : IntsV w.heap b m ys) (hk : k ≤ m) : (Builtin.firstCells 1 k (.slice b m c)).run P w = .ok ((Eng.ints ys).take k).toArray w := by
  cases b with
  | none =>
    rcases H.row with h1 | ⟨g, off, cur, ct, fr, h1, _⟩
    · have : ys = [] := by simpa [Eng.ints] using h1
      have hl := H.len
      rw [this] at hl
      obtain rfl : k = 0 := by simp at hl; omega
      simp [Builtin.firstCells]
    · cases h1
  | some a =>
    rcases H.row with h1 | ⟨g, off, cur, ct, fr, h1, h2, h3, h4⟩
    · have hy : ys = [] := by simpa [Eng.ints] using h1
      have hl := H.len
      rw [hy] at hl
      obtain rfl : k = 0 := by simp at hl; omega
      have := run_firstCells_some (P := P) w 1 0 a m c [] (by simp) (by simp)
      simpa using this
    · cases h1
      have hl := H.len
      refine run_firstCells_some w 1 k ⟨g, off, none⟩ m c _ (by rw [List.length_take, ints_length]; omega) fun j u hu => ?_
      rw [← h4, List.getElem?_take] at hu
      split at hu
      · rw [List.getElem?_take] at hu
        split at hu
        · rw [List.getElem?_drop] at hu
          exact Go.Run.cell_row h2 (by simpa using hu)
        · cases hu
      · cases hu
theorem ints_src {ats : Array TypeId} {t2 e2 : TypeId} (h1 : ats[1]? = some t2) (hu : P.underlying t2 = some (.slice e2)) {b : Option Addr} {m c : Nat} {ys : List Int} (H : IntsV h b m ys) : Go.Run.Src P ats h 1 m (.slice b m c) (Eng.ints ys) := by
  have hl := H.len
  refine ⟨⟨t2, _, h1, hu, .inl ⟨e2, rfl⟩⟩, fun w _ => by simp [Builtin.lenOf], fun w hw => ?_, fun _ n hn w hw => ?_⟩
  · subst hw
    have := firstC (P := P) (c := c) H (Nat.le_refl m)
    rwa [List.take_of_length_le (by rw [ints_length]; omega)] at this
  · subst hw
    have := firstC (P := P) (c := c) H hn
    rwa [Nat.mul_one]
theorem append_ints {t t2 el e2 : TypeId} {i : TypeInfo} {z : Int} (hu : P.underlying t = some (.slice el)) (hu2 : P.underlying t2 = some (.slice e2)) (hi : P.info? el = some i) (hsz : i.size = 1) (hby : i.bytes ≤ 8) (hz : i.zero = some (.int .i64 z))
    {x y : Operand} {a b : Option Addr} {len cap m c : Nat} {xs ys : List Int} {K : Value → Heap → Prop} (hx : ev er x = .slice a len cap) (hy : ev er y = .slice b m c) (O : OwnI h0 h el a len cap xs) (h0h : h0 ≤ h.size) (I : IntsV h b m ys) (hb : len + m ≤ 100000)
    (H : ∀ a' cap' h', OwnI h0 h' el a' (len + m) cap' (xs ++ ys) → App h h' a a' → K (.slice a' (len + m) cap') h') : opSem P (.call ⟨.builtin .append, #[x, y], #[t, t2]⟩) ty er h K := by
  unfold opSem
  refine And.intro rfl fun w hw => ?_
  subst hw
  have hlen : (xs ++ ys).length = len + m := by rw [List.length_append, ← O.ln, ← I.len]
  have hs := ints_src (P := P) (ats := #[t, t2]) (c := c) rfl hu2 I
  have hargs : #[x, y].map (ev er) = #[.slice a len cap, .slice b m c] := by simp [hx, hy]
  have key : ∀ v w', (Builtin.append_ #[t, t2] ty #[.slice a len cap, .slice b m c]).run P w = .ok v w' → Rest w w' → K v w'.heap →
      semPost P w K ((execOp (ev er) { dst := none, op := .call ⟨.builtin .append, #[x, y], #[t, t2]⟩, type := ty, pos := "", after := #[], guard := none }).run P w) := by
    intro v w' h1 h2 h3
    have : (execOp (ev er) { dst := none, op := .call ⟨.builtin .append, #[x, y], #[t, t2]⟩, type := ty, pos := "", after := #[], guard := none }).run P w = .ok (.value v) w' := by
      simp only [execOp, resolve, invoke, builtin, Sem.run_bind, Sem.run_pure, Result.andThen_ok, hargs, h1]
    rw [this]
    exact ⟨h3, h2⟩
  have grow : cap < len + m → semPost P w K ((execOp (ev er) { dst := none, op := .call ⟨.builtin .append, #[x, y], #[t, t2]⟩, type := ty, pos := "", after := #[], guard := none }).run P w) := by
    intro hgr
    have g1 := Go.Run.ap_grow (P := P) (ty := ty) (ats := #[t, t2]) (z := .int .i64 z) (sLen := len) (sCap := cap) (b := a) (olds := Eng.ints xs) rfl hu hi hz w (by rw [hsz]; exact hs)
      (fun w' hw' => by
        have hI := O.ints
        rw [← hw'] at hI
        have := firstC (P := P) (c := cap) hI (Nat.le_refl len)
        rw [List.take_of_length_le (by rw [ints_length, ← O.ln]; omega)] at this
        rw [hsz]
        exact this) hgr (by have : (len + m) * i.bytes ≤ 100000 * 8 := Nat.mul_le_mul hb hby
                            omega) (by omega)
    refine key _ _ g1 ⟨rfl, rfl, rfl⟩ (H _ _ _ ⟨hlen.symm, .inr ⟨w.heap.size, _, rfl, h0h, push_new, ?_, grownCap_ge w (len + m) cap el, ?_⟩⟩ ⟨by simp, fun c hc _ => ?_, fun p hp => ?_⟩)
    · have := grownCap_ge w (len + m) cap el
      have hzl : (Builtin.zeroCells (Value.int .i64 z).cells (grownCap w (len + m) cap el - (len + m))).size = grownCap w (len + m) cap el - (len + m) := by
        simp [Builtin.zeroCells, Value.cells]
      simp only [List.size_toArray, List.length_append, ints_length, Array.length_toList, hzl, ← O.ln, ← I.len]
      omega
    · rw [List.toList_toArray, List.append_assoc, ← List.append_assoc, List.take_append_of_le_length]
      · rw [List.take_of_length_le]
        · simp [Eng.ints]
        · rw [List.length_append, ints_length, ints_length, ← O.ln, ← I.len]; omega
      · rw [List.length_append, ints_length, ints_length, ← O.ln, ← I.len]; omega
    · show (w.heap.push _)[c]? = _
      rw [push_get, if_neg (by omega)]
    · cases hp
      exact .inr (Nat.le_refl _)
  rcases O.ok with ⟨rfl, rfl, rfl⟩ | ⟨g, cur, rfl, q1, q2, q3, q4, q5⟩
  · by_cases hm : m = 0
    · subst hm
      have hy0 : ys = [] := List.length_eq_zero_iff.1 I.len.symm
      have hx0 : xs = [] := List.length_eq_zero_iff.1 O.ln.symm
      have g1 := Go.Run.ap_none (P := P) (ty := ty) (ats := #[t, t2]) rfl hu hi w (x := .slice b 0 c) (news := Eng.ints ys) (by rw [hsz]; exact hs)
      exact key _ _ g1 (Rest.refl w) (H none 0 w.heap ⟨by rw [hx0, hy0]; rfl, .inl ⟨rfl, rfl, rfl⟩⟩ ⟨Nat.le_refl _, fun _ _ _ => rfl, fun p hp => by cases hp⟩)
    · exact grow (by omega)
  · by_cases hr : len + m ≤ cap
    · have g1 := Go.Run.ap_room (P := P) (ty := ty) (ats := #[t, t2]) (sLen := len) (sCap := cap) (off := 0) rfl hu hi w (by rw [hsz]; exact hs) q2 (fun u hu => by
          simp only [Eng.ints, List.mem_map] at hu
          obtain ⟨_, _, rfl⟩ := hu
          rfl) hr (by rw [hsz, ints_length, ← I.len]; omega)
      have hheap : (w.setRow g (splice cur.toList (0 + len * i.size) (Eng.ints ys)).toArray).heap[g]? = some (.cells (splice cur.toList (0 + len * i.size) (Eng.ints ys)).toArray el (0, 0)) := by
        have hlt := lt_of_get q2
        have hv := (Array.getElem?_eq_some_iff.1 q2).2
        simp [World.setRow, Array.getElem_modify, hlt, hv]
      refine key _ _ g1 ⟨rfl, rfl, rfl⟩ (H _ _ _ ⟨hlen.symm, .inr ⟨g, _, rfl, q1, hheap, ?_, hr, ?_⟩⟩ ⟨by simp [World.setRow], fun c hc hne => ?_, fun p hp => .inl ⟨p, hp, rfl⟩⟩)
      · simp [splice, hsz, ints_length, ← I.len]; omega
      · rw [List.toList_toArray, hsz, Nat.zero_add, Nat.mul_one, splice, q5]
        rw [List.take_append_of_le_length (by rw [List.length_append, ints_length, ints_length, ← O.ln, ← I.len]; omega), List.take_of_length_le (by rw [List.length_append, ints_length, ints_length, ← O.ln, ← I.len]; omega)]
        simp [Eng.ints]
      · have : g ≠ c := hne _ rfl
        simp [World.setRow, Array.getElem?_modify, this]
    · exact grow (by omega)
theorem append_intsT {t t2 el e2 : TypeId} {z : Int} (hu : P.underlying t = some (.slice el)) (hu2 : P.underlying t2 = some (.slice e2)) (hi : (P.info? el).isSome = true) (hsz : szT P el = 1) (hby : bytesT P el ≤ 8) (hz : zeroT P el = some (.int .i64 z))
    {x y : Operand} {a b : Option Addr} {len cap m c : Nat} {xs ys : List Int} {K : Value → Heap → Prop} (hx : ev er x = .slice a len cap) (hy : ev er y = .slice b m c) (O : OwnI h0 h el a len cap xs) (h0h : h0 ≤ h.size) (I : IntsV h b m ys) (hb : len + m ≤ 100000)
    (H : ∀ a' cap' h', OwnI h0 h' el a' (len + m) cap' (xs ++ ys) → App h h' a a' → K (.slice a' (len + m) cap') h') : opSem P (.call ⟨.builtin .append, #[x, y], #[t, t2]⟩) ty er h K := by
  obtain ⟨i, hi⟩ := Option.isSome_iff_exists.1 hi
  refine append_ints hu hu2 hi (by simpa [szT, hi] using hsz) (by simpa [bytesT, hi] using hby) (z := z) (by simpa [zeroT, hi] using hz) hx hy O h0h I hb H
def NewI (m : Nat) (h' : Heap) (el : TypeId) (v : Value) (xs : List Int) : Prop := ∃ a cap, v = .slice a xs.length cap ∧ OwnI m h' el a xs.length cap xs
theorem App.upd {h h' : Heap} {a a' : Option Addr} {el : TypeId} {len cap : Nat} {xs : List Int} {m c : Nat} {o : Obj} (A : App h h' a a') (O : OwnI m h el a len cap xs) (hc : h[c]? = some o) (hm : c < m) : h'[c]? = some o :=
  (A.old c (lt_of_get hc) fun p hp => by have := (O.lt hp).2; omega).trans hc
theorem App.extN {h h' h1 : Heap} {a a' : Option Addr} {el : TypeId} {len cap : Nat} {xs : List Int} {m : Nat} (A : App h h' a a') (O : OwnI m h el a len cap xs) (x : Ext h1 h) (hm : h1.size ≤ m) : Ext h1 h' :=
  ⟨Nat.le_trans x.size A.size, fun c hc => (A.old c (Nat.lt_of_lt_of_le hc x.size) fun p hp => by have := (O.lt hp).2; omega).trans (x.old c hc)⟩
theorem OwnI.upd {el : TypeId} {a : Option Addr} {len cap m b : Nat} {xs : List Int} {h h' : Heap} (O : OwnI m h el a len cap xs) (u : Upd h h' b) (hb : b < m) : OwnI m h' el a len cap xs :=
  O.keep fun p hp => u.old _ (by have := (O.lt hp).2; omega)
theorem OwnI.mono {el : TypeId} {a : Option Addr} {len cap m m' : Nat} {xs : List Int} {h : Heap} (O : OwnI m h el a len cap xs) (hm : m' ≤ m) : OwnI m' h el a len cap xs := by
  refine ⟨O.ln, ?_⟩
  rcases O.ok with h1 | ⟨g, cur, h1, h2, h3⟩
  · exact .inl h1
  · exact .inr ⟨g, cur, h1, by omega, h3⟩
theorem NewI.mono {m m' : Nat} {h' : Heap} {el : TypeId} {v : Value} {xs : List Int} (N : NewI m h' el v xs) (hm : m' ≤ m) : NewI m' h' el v xs := by
  obtain ⟨a, cap, h1, h2⟩ := N
  exact ⟨a, cap, h1, h2.mono hm⟩
theorem NewI.upd {m b : Nat} {h h' : Heap} {el : TypeId} {v : Value} {xs : List Int} (N : NewI m h el v xs) (u : Upd h h' b) (hb : b < m) : NewI m h' el v xs := by
  obtain ⟨a, cap, h1, h2⟩ := N
  exact ⟨a, cap, h1, h2.upd u hb⟩
theorem NewI.ext {m : Nat} {h h' : Heap} {el : TypeId} {v : Value} {xs : List Int} (N : NewI m h el v xs) (x : Ext h h') : NewI m h' el v xs := by
  obtain ⟨a, cap, h1, h2⟩ := N
  exact ⟨a, cap, h1, h2.ext x⟩
theorem setRow_heap {w : World} {g : Nat} {cur : Array Value} {ct : TypeId} {fr : Nat × Nat} (q : w.heap[g]? = some (.cells cur ct fr)) (l : List Value) : (w.setRow g l.toArray).heap[g]? = some (.cells l.toArray ct fr) ∧ Upd w.heap (w.setRow g l.toArray).heap g := by
  have hlt := lt_of_get q
  have hv := (Array.getElem?_eq_some_iff.1 q).2
  refine ⟨by simp [World.setRow, Array.getElem_modify, hlt, hv], by simp [World.setRow], fun b hb => ?_⟩
  simp [World.setRow, Array.getElem?_modify, Ne.symm hb]
theorem clear_intsT {t el ct : TypeId} {z : Int} (hu : P.underlying t = some (.slice el)) (hz : zeroT P el = some (.int .i64 z))
    {x : Operand} {g off n c : Nat} {cur : List Value} {K : Value → Heap → Prop} (hx : ev er x = .slice (some ⟨g, off, none⟩) n c) (hb : h[g]? = some (.cells cur.toArray ct (0, 0))) (hl : off + n ≤ cur.length)
    (H : ∀ h', h'[g]? = some (.cells (splice cur off (List.replicate n (.int .i64 z))).toArray ct (0, 0)) → Upd h h' g → K (.tuple #[]) h') : opSem P (.call ⟨.builtin .clear, #[x], #[t]⟩) ty er h K := by
  unfold opSem
  refine And.intro rfl fun w hw => ?_
  subst hw
  have hi : ∃ i, P.info? el = some i ∧ i.zero = some (.int .i64 z) := by
    unfold zeroT at hz
    cases hq : P.info? el with
    | none => simp [hq] at hz
    | some i => exact ⟨i, rfl, by simpa [hq] using hz⟩
  obtain ⟨i, hi, hz⟩ := hi
  have key : ∀ w', (Builtin.clear_ #[t] ty #[.slice (some ⟨g, off, none⟩) n c]).run P w = .ok (.tuple #[]) w' → Rest w w' → K (.tuple #[]) w'.heap →
      semPost P w K ((execOp (ev er) { dst := none, op := .call ⟨.builtin .clear, #[x], #[t]⟩, type := ty, pos := "", after := #[], guard := none }).run P w) := by
    intro w' h1 h2 h3
    have : (execOp (ev er) { dst := none, op := .call ⟨.builtin .clear, #[x], #[t]⟩, type := ty, pos := "", after := #[], guard := none }).run P w = .ok (.value (.tuple #[])) w' := by
      have hargs : #[x].map (ev er) = #[.slice (some ⟨g, off, none⟩) n c] := by simp [hx]
      simp only [execOp, resolve, invoke, builtin, Sem.run_bind, Sem.run_pure, Result.andThen_ok, hargs, h1]
    rw [this]
    exact ⟨h3, h2⟩
  cases n with
  | zero =>
    refine key w (by simp [Builtin.clear_, run_underlying hu]) (Rest.refl w) ?_
    refine H _ ?_ ⟨rfl, fun _ _ => rfl⟩
    rw [hb]
    simp [splice]
  | succ n =>
    have hst := run_storeCells_at P g off ct (List.replicate (n + 1) (Value.int .i64 z)) 0 cur.toArray w hb (by simpa using hl) (fun x hx => by rw [List.eq_of_mem_replicate hx]; rfl)
    simp only [Nat.add_zero, List.length_replicate] at hst
    have e3 : (Builtin.zeroCells (Value.int .i64 z).cells (n + 1)).toList = List.replicate (n + 1) (Value.int .i64 z) := by
      unfold Builtin.zeroCells
      rw [zeros_eq]
      simp [Value.cells]
    refine key (w.setRow g (splice cur off (List.replicate (n + 1) (.int .i64 z))).toArray) ?_ ⟨rfl, rfl, rfl⟩ ?_
    rotate_left
    · have e4 : cur.toArray.toList.take off ++ List.replicate (n + 1) (Value.int .i64 z) ++ cur.toArray.toList.drop (off + (n + 1)) = splice cur off (List.replicate (n + 1) (.int .i64 z)) := by simp [splice]
      exact H (w.setRow g (splice cur off (List.replicate (n + 1) (.int .i64 z))).toArray).heap (setRow_heap hb _).1 (setRow_heap hb _).2
    · have e4 : cur.toArray.toList.take off ++ List.replicate (n + 1) (Value.int .i64 z) ++ cur.toArray.toList.drop (off + (n + 1)) = splice cur off (List.replicate (n + 1) (.int .i64 z)) := by simp [splice]
      rw [e4] at hst
      simp only [Builtin.clear_, Sem.run_bind, run_underlying hu]
      have hzv : (zeroValue el).run P w = .ok (.int .i64 z) w := by simp [zeroValue, typeInfo, hi, hz]
      simp [run_underlying hu, hzv, e3, hst]
theorem copy_intsT {t t2 el e2 ct : TypeId} (hu : P.underlying t = some (.slice el)) (hu2 : P.underlying t2 = some (.slice e2)) (hi : (P.info? el).isSome = true) (hsz : szT P el = 1)
    {x y : Operand} {b : Option Addr} {g off n c m c2 : Nat} {cur : List Value} {ys : List Int} {K : Value → Heap → Prop} (hx : ev er x = .slice (some ⟨g, off, none⟩) n c) (hy : ev er y = .slice b m c2) (hb : h[g]? = some (.cells cur.toArray ct (0, 0))) (hl : off + n ≤ cur.length) (I : IntsV h b m ys)
    (H : ∀ h', h'[g]? = some (.cells (splice cur off (ints (ys.take n))).toArray ct (0, 0)) → Upd h h' g → K (.int .i64 (min m n : Nat)) h') : opSem P (.call ⟨.builtin .copy, #[x, y], #[t, t2]⟩) ty er h K := by
  unfold opSem
  refine And.intro rfl fun w hw => ?_
  subst hw
  obtain ⟨i, hi⟩ := Option.isSome_iff_exists.1 hi
  have hsz : i.size = 1 := by simpa [szT, hi] using hsz
  have hml := I.len
  have hf := firstC (P := P) (w := w) (c := c2) (k := min m n) I (Nat.min_le_left _ _)
  have et : (ints ys).take (min m n) = ints (ys.take n) := by
    simp only [ints, List.map_take]
    rw [List.take_eq_take_iff]
    simp
    omega
  rw [et] at hf
  have hlen : (ints (ys.take n)).length = min m n := by rw [ints_length, List.length_take]; omega
  have hst := run_storeCells_at P g off ct (ints (ys.take n)) 0 cur.toArray w hb (by rw [hlen]; simp; omega) (fun x hx => by simp only [ints, List.mem_map] at hx; obtain ⟨_, _, rfl⟩ := hx; rfl)
  simp only [Nat.add_zero] at hst
  have e4 : cur.toArray.toList.take off ++ ints (ys.take n) ++ cur.toArray.toList.drop (off + (ints (ys.take n)).length) = splice cur off (ints (ys.take n)) := by simp [splice]
  rw [e4] at hst
  have h1 : (Builtin.copy_ #[t, t2] ty #[.slice (some ⟨g, off, none⟩) n c, .slice b m c2]).run P w = .ok (.int .i64 (min m n : Nat)) (w.setRow g (splice cur off (ints (ys.take n))).toArray) := by
    have e5 : Nat.min m n = min m n := rfl
    simp only [Builtin.copy_, Sem.run_bind, run_underlying hu, sizeOf, typeInfo]
    simp [run_underlying hu, hi, hsz, Builtin.lenOf, e5, hf, hst, goInt]
  have hargs : #[x, y].map (ev er) = #[.slice (some ⟨g, off, none⟩) n c, .slice b m c2] := by simp [hx, hy]
  have : (execOp (ev er) { dst := none, op := .call ⟨.builtin .copy, #[x, y], #[t, t2]⟩, type := ty, pos := "", after := #[], guard := none }).run P w = .ok (.value (.int .i64 (min m n : Nat))) (w.setRow g (splice cur off (ints (ys.take n))).toArray) := by
    simp only [execOp, resolve, invoke, builtin, Sem.run_bind, Sem.run_pure, Result.andThen_ok, hargs, h1]
  rw [this]
  exact ⟨H _ (setRow_heap hb _).1 (setRow_heap hb _).2, rfl, rfl, rfl⟩
theorem OwnI.block {el : TypeId} {a : Option Addr} {len cap m : Nat} {xs : List Int} {h : Heap} (O : OwnI m h el a len cap xs) (hn : 0 < len) : ∃ g tl, a = some ⟨g, 0, none⟩ ∧ m ≤ g ∧ h[g]? = some (.cells (Eng.ints xs ++ tl).toArray el (0, 0)) ∧ cap ≤ len + tl.length ∧ len ≤ cap ∧ len = xs.length := by
  rcases O.ok with ⟨_, h1, _⟩ | ⟨g, cur, rfl, h1, h2, h3, h4, h5⟩
  · omega
  · refine ⟨g, cur.toList.drop len, rfl, h1, ?_, by simp; omega, h4, O.ln⟩
    rw [h2, ← h5, List.take_append_drop]
theorem OwnI.of_block {el : TypeId} {cap m g : Nat} {xs : List Int} {tl : List Value} {h : Heap} (hg : m ≤ g) (hb : h[g]? = some (.cells (Eng.ints xs ++ tl).toArray el (0, 0))) (hc : cap ≤ xs.length + tl.length) (hc2 : xs.length ≤ cap) : OwnI m h el (some ⟨g, 0, none⟩) xs.length cap xs :=
  ⟨rfl, .inr ⟨g, _, rfl, hg, hb, by simp [ints_length]; omega, hc2, by simp [ints_length]⟩⟩
theorem bldO_no {z : Option Value} {pl : Nat → Option (Nat × Nat)} {parts : List (Nat × Value)} {F : Prop} {K : Value → Heap → Prop} : bldO false z pl parts h K F = F := by simp only [bldO]
section eqs
open Go.Run
theorem vl_ints {ι : Io} : ∀ xs : List Int, VL ι (xs.map (T.int .i64)) (Eng.ints xs)
  | [] => by simp [Eng.ints, VL]
  | x :: xs => by
    have := vl_ints (ι := ι) xs
    simp only [Eng.ints, List.map_cons, VL, VR] at this ⊢
    exact ⟨_, _, rfl, rfl, this⟩
theorem beqF_ints : ∀ (xs ys : List Int), xs.length = ys.length → beqF (List.replicate xs.length .i) (xs.map (T.int .i64)) (ys.map (T.int .i64)) = some (decide (xs = ys))
  | [], [], _ => rfl
  | x :: xs, y :: ys, h => by
    have h1 := beqF_ints xs ys (by simpa using h)
    have hk : beqK .i64 .i64 = true := rfl
    simp only [List.length_cons, List.replicate_succ, List.map_cons, beqF, scEq, hk]
    by_cases hxy : x = y
    · have hb : beqI x y = true := by rw [← int_beq]; simpa using hxy
      rw [hb, h1]
      simp [hxy]
    · have hb : beqI x y = false := by rw [← int_beq]; simpa using hxy
      rw [hb]
      simp [hxy]
theorem eqAggW {p : Pr} (ok : Ok P p) {u yt : TypeId} {ti : TI} (hti : p.ty u = some ti) {a b : T} {v w : Value} {r : Bool} (hv : VR (fun _ => none) a v) (hw : VR (fun _ => none) b w) (he : eqAgg ti a b = some r) {op : BinOp} (ho : op = .eql ∨ op = .neq)
    {x y : Operand} (hx : ev er x = v) (hy : ev er y = w) {K : Value → Heap → Prop} (H : K (.bool (if op = .eql then r else !r)) h) : opSem P (.binOp op u x y yt) ty er h K := by
  refine opSem_pure rfl _ H fun W hW => ?_
  obtain ⟨h1, ⟨c, d, rfl, rfl⟩, hg, _⟩ := eqAgg_run (ok.tf hti) hv hw he W
  have : (do eqGuard op u x y (.agg c) (.agg d); Go.binOp op u (.agg c) (.agg d) : Sem Value).run P W = .ok (.bool (if op = .eql then r else !r)) W := by
    rcases ho with rfl | rfl <;> simp [eqGuard, hg, Go.binOp, h1]
  simp only [execOp, Sem.run_bind, hx, hy] at this ⊢
  rw [this]
  rfl
end eqs
theorem intsV_slice {a : Option Addr} {n c lo hi : Nat} {xs : List Int} (I : IntsV h a n xs) (h1 : lo ≤ hi) (h2 : hi ≤ n) (h3 : n ≤ c) : IntsV h (if (c : Int) = (lo : Int) then a else eltP a lo) (hi - lo) ((xs.drop lo).take (hi - lo)) := by
  have hl := I.len
  refine ⟨by simp; omega, ?_⟩
  split
  · rename_i he
    have : hi - lo = 0 := by omega
    rw [this]
    exact .inl (by simp [Eng.ints])
  · have := I.row.sub lo (hi - lo) (by rw [ints_length]; omega)
    rwa [show ((Eng.ints xs).drop lo).take (hi - lo) = Eng.ints ((xs.drop lo).take (hi - lo)) by simp [Eng.ints, List.map_take, List.map_drop]] at this
def Apart (a b : Option Addr) : Prop := ∀ p q, a = some p → b = some q → p.block ≠ q.block
theorem Apart.symm {a b : Option Addr} (H : Apart a b) : Apart b a := fun p q hp hq he => H q p hq hp he.symm
theorem Apart.app {el2 : TypeId} {a a' b : Option Addr} {lb cb mb : Nat} {ys : List Int} {h h' : Heap} (hne : Apart a b) (A : App h h' a a') (B : OwnI mb h el2 b lb cb ys) : Apart a' b := by
  intro p q hp hq
  have := (B.lt hq).1
  rcases A.to p hp with ⟨r, hr, he⟩ | h1
  · rw [← he]; exact hne r q hr hq
  · omega
theorem OwnI.apart {el el2 : TypeId} {a b : Option Addr} {len cap m lb cb mb : Nat} {xs ys : List Int} {h h' : Heap} (O : OwnI m h el a len cap xs) (B : OwnI mb h' el2 b lb cb ys) (hm : h.size ≤ mb) : Apart a b := by
  intro p q hp hq
  have := (O.lt hp).1
  have := (B.lt hq).2
  omega
theorem OwnI.take {el : TypeId} {a : Option Addr} {len cap m : Nat} {xs : List Int} (O : OwnI m h el a len cap xs) {k : Nat} (hk : k ≤ len) : OwnI m h el a k cap (xs.take k) := by
  refine ⟨by have := O.ln; simp; omega, ?_⟩
  rcases O.ok with ⟨h1, h2, h3⟩ | ⟨g, cur, h1, h2, h3, h4, h5, h6⟩
  · exact .inl ⟨h1, by omega, h3⟩
  · refine .inr ⟨g, cur, h1, h2, h3, h4, by omega, ?_⟩
    have : (cur.toList.take len).take k = (Eng.ints xs).take k := by rw [h6]
    rw [List.take_take, show min k len = k by omega] at this
    rw [this]
    simp [Eng.ints, List.map_take]
theorem OwnI.tail {el : TypeId} {len cap m g off : Nat} {xs : List Int} {vs : List Value} {cur : List Value} {h h' : Heap} (O : OwnI m h el (some ⟨g, 0, none⟩) len cap xs) (hb : h[g]? = some (.cells cur.toArray el (0, 0))) (hb' : h'[g]? = some (.cells (splice cur off vs).toArray el (0, 0))) (ho : len ≤ off) (hl : off + vs.length ≤ cur.length) : OwnI m h' el (some ⟨g, 0, none⟩) len cap xs := by
  rcases O.ok with ⟨h1, _⟩ | ⟨g2, cur2, h1, q1, q2, q3, q4, q5⟩
  · cases h1
  cases h1
  rw [hb] at q2
  cases q2
  refine ⟨O.ln, .inr ⟨g, _, rfl, q1, hb', by simp [splice] at q3 ⊢; omega, q4, ?_⟩⟩
  rw [← q5]
  simp only [splice, List.append_assoc]
  rw [List.take_append_of_le_length (by rw [List.length_take]; omega), List.take_take]
  congr 1
  omega
section bools
open Go.Run
end bools
end apps
end Go.Eng
end
section
set_option linter.unusedVariables false
set_option linter.unusedSimpArgs false
namespace Go.Eng
open Go
section vrows
variable {P : Program} {h0 : Nat} {h : Heap} {er : Env} {ty : TypeId}
structure OwnV (h0 : Nat) (h : Heap) (el : TypeId) (s : Nat) (a : Option Addr) (len cap : Nat) (vs : List Value) : Prop where
  ln : vs.length = len * s
  ok : (a = none ∧ len = 0 ∧ cap = 0) ∨ ∃ g cur, a = some ⟨g, 0, none⟩ ∧ h0 ≤ g ∧ h[g]? = some (.cells cur el (0, 0)) ∧ cap * s ≤ cur.size ∧ len ≤ cap ∧ cur.toList.take (len * s) = vs
theorem OwnV.nil (h0 : Nat) (h : Heap) (el : TypeId) (s : Nat) : OwnV h0 h el s none 0 0 [] := ⟨by simp, .inl ⟨rfl, rfl, rfl⟩⟩
theorem OwnV.row {el : TypeId} {s : Nat} {a : Option Addr} {len cap : Nat} {vs : List Value} (O : OwnV h0 h el s a len cap vs) : Row h a vs := by
  have hl := O.ln
  rcases O.ok with ⟨rfl, h1, _⟩ | ⟨g, cur, rfl, h1, h2, h3, h4, h5⟩
  · left
    rw [h1, Nat.zero_mul] at hl
    exact List.length_eq_zero_iff.1 hl
  · right
    have : len * s ≤ cap * s := Nat.mul_le_mul_right _ h4
    exact ⟨g, 0, cur, el, (0, 0), rfl, h2, by omega, by rw [List.drop_zero, hl]; exact h5⟩
theorem OwnV.cap {el : TypeId} {s : Nat} {a : Option Addr} {len cap : Nat} {vs : List Value} (O : OwnV h0 h el s a len cap vs) : len ≤ cap := by
  rcases O.ok with ⟨_, h1, h2⟩ | ⟨g, cur, _, _, _, _, h4, _⟩ <;> omega
theorem OwnV.keep {el : TypeId} {s : Nat} {a : Option Addr} {len cap : Nat} {vs : List Value} (O : OwnV h0 h el s a len cap vs) {h' : Heap} (hk : ∀ p, a = some p → h'[p.block]? = h[p.block]?) : OwnV h0 h' el s a len cap vs := by
  refine ⟨O.ln, ?_⟩
  rcases O.ok with h1 | ⟨g, cur, rfl, h1, h2, h3⟩
  · exact .inl h1
  · exact .inr ⟨g, cur, rfl, h1, (hk _ rfl).trans h2, h3⟩
theorem OwnV.lt {el : TypeId} {s : Nat} {a : Option Addr} {len cap : Nat} {vs : List Value} (O : OwnV h0 h el s a len cap vs) {p : Addr} (hp : a = some p) : p.block < h.size ∧ h0 ≤ p.block := by
  rcases O.ok with ⟨h1, _⟩ | ⟨g, cur, h1, h2, h3, h4⟩
  · rw [h1] at hp; cases hp
  · rw [h1] at hp; cases hp; exact ⟨lt_of_get h3, h2⟩
theorem OwnV.ext {el : TypeId} {s : Nat} {a : Option Addr} {len cap : Nat} {vs : List Value} (O : OwnV h0 h el s a len cap vs) {h' : Heap} (x : Ext h h') : OwnV h0 h' el s a len cap vs := O.keep fun p hp => x.old _ (O.lt hp).1
theorem OwnV.upd {el : TypeId} {s : Nat} {a : Option Addr} {len cap b : Nat} {vs : List Value} {h' : Heap} (O : OwnV h0 h el s a len cap vs) (u : Upd h h' b) (hb : b < h0) : OwnV h0 h' el s a len cap vs :=
  O.keep fun p hp => u.old _ (by have := (O.lt hp).2; omega)
theorem OwnV.mono {el : TypeId} {s : Nat} {a : Option Addr} {len cap m' : Nat} {vs : List Value} (O : OwnV h0 h el s a len cap vs) (hm : m' ≤ h0) : OwnV m' h el s a len cap vs := by
  refine ⟨O.ln, ?_⟩
  rcases O.ok with h1 | ⟨g, cur, h1, h2, h3⟩
  · exact .inl h1
  · exact .inr ⟨g, cur, h1, by omega, h3⟩
end vrows
theorem opW_entry {P : Program} {x : Operand} {ty : TypeId} {e : Env} {h : Heap} {K : Value → Heap → Prop} : opW P (.entry x) ty e h K = opSem P (.entry x) ty e h K := by
  unfold opW pvW alcW
  rfl
section steps
variable {l : Option Nat} {P : Program} {e : Env} {d : List Deferred} {h : Heap} {k : Cont}
end steps
section maps
open Go.Run
variable {P : Program} {h : Heap} {er : Env} {ty : TypeId} {α : Type}
def entM (kv : α → Value) (x : α × Value × Nat) : MapEntry := { key := kv x.1, val := x.2.1, born := x.2.2 }
structure MapV (kv : α → Value) (h : Heap) (b : Nat) (es : List (α × Value × Nat)) (c : Nat) : Prop where
  obj : h[b]? = some (.map (es.map (entM kv)).toArray c)
  born : (es.map (·.2.2)).Pairwise (· < ·)
  lt : ∀ x ∈ es, x.2.2 < c
theorem MapV.empty {kv : α → Value} (h : Heap) : MapV kv (h.push (.map #[] 0)) h.size [] 0 := ⟨by simp, by simp, by simp⟩
theorem MapV.keep {kv : α → Value} {b c : Nat} {es : List (α × Value × Nat)} {h' : Heap} (M : MapV kv h b es c) (hk : h'[b]? = h[b]?) : MapV kv h' b es c := ⟨hk.trans M.obj, M.born, M.lt⟩
theorem MapV.ext {kv : α → Value} {b c : Nat} {es : List (α × Value × Nat)} {h' : Heap} (M : MapV kv h b es c) (x : Ext h h') : MapV kv h' b es c := M.keep (x.old _ (lt_of_get M.obj))
theorem set_upd {b : Nat} {o o' : Obj} (hb : h[b]? = some o) : (h.setIfInBounds b o')[b]? = some o' ∧ Upd h (h.setIfInBounds b o') b := by
  have hlt := lt_of_get hb
  exact ⟨by simp [Array.getElem?_setIfInBounds, hlt], by simp, fun b' hb' => Array.getElem?_setIfInBounds_ne (Ne.symm hb')⟩
theorem map_rangeT {u kt vt : TypeId} {kv : α → Value} (hu : P.underlying u = some (.map kt vt)) {b c : Nat} {es : List (α × Value × Nat)} (M : MapV kv h b es c) {x : Operand} {Q : Value → Heap → Prop} (hx : ev er x = .map (some b))
    (H : Q (.pointer (some ⟨h.size, 0, none⟩)) (h.push (.mapIter (some b) c #[] c))) : opSem P (.range u x) ty er h Q := by
  refine opSem_value rfl (.pointer (some ⟨h.size, 0, none⟩)) (h.push (.mapIter (some b) c #[] c)) H fun w hw => ?_
  subst hw
  have g1 := MapKept.run_getObj_map (P := P) M.obj
  exact ⟨{ w with heap := w.heap.push (.mapIter (some b) c #[] c) }, by simp [execOp, Instr.range, hx, run_underlying hu, g1], rfl, rfl, rfl, rfl⟩
theorem left_map {kv : α → Value} (es : List (α × Value × Nat)) (seen : Array Nat) : (leftOf (es.map (entM kv)).toArray seen).toList = (es.filter fun x => !seen.contains x.2.2).map (entM kv) := by
  unfold leftOf
  rw [Array.toList_filter, List.toList_toArray, List.filter_map]
  rfl
theorem map_nextT {kv : α → Value} {b c r since c0 : Nat} {seen : Array Nat} {es : List (α × Value × Nat)} (M : MapV kv h b es c) (hr : h[r]? = some (.mapIter (some b) since seen c0)) (hold : ∀ x ∈ es, x.2.2 < since) (hsc : since ≤ c0)
    {x : Operand} {Q : Value → Heap → Prop} (hx : ev er x = .pointer (some ⟨r, 0, none⟩)) (H0 : (∀ x ∈ es, seen.contains x.2.2 = true) → Q (.tuple #[.bool false]) h)
    (H1 : ∀ e ∈ es, seen.contains e.2.2 = false → ∀ h', h'[r]? = some (.mapIter (some b) since (seen.push e.2.2) c) → Upd h h' r → Q (.tuple #[.bool true, kv e.1, e.2.1]) h') : opSem P (.next x false) ty er h Q := by
  unfold opSem
  refine And.intro rfl fun w hw => ?_
  have M1 := M.obj
  rw [← hw] at M1 hr
  rcases run_next_at (P := P) w ty r b since c0 seen _ c hr M1 (fun y hy => by
    rw [List.toList_toArray] at hy
    obtain ⟨q, hq, rfl⟩ := List.mem_map.1 hy
    exact hold q hq) hsc with ⟨h1, h2⟩ | ⟨e, he, w1, hw1, hrun⟩
  · have : (execOp (ev er) { dst := none, op := .next x false, type := ty, pos := "", after := #[], guard := none }).run P w = .ok (.value (.tuple #[.bool false])) w := by
      simp [execOp, hx, h2]
    rw [this]
    refine ⟨?_, Rest.refl w⟩
    rw [hw]
    refine H0 fun y hy => ?_
    rw [← Array.length_toList, left_map] at h1
    have h1 := List.length_eq_zero_iff.1 h1
    rw [List.map_eq_nil_iff, List.filter_eq_nil_iff] at h1
    have := h1 y hy
    simpa using this
  · rw [left_map] at he
    obtain ⟨q, hq, rfl⟩ := List.mem_map.1 he
    have hq := List.mem_filter.1 hq
    have : (execOp (ev er) { dst := none, op := .next x false, type := ty, pos := "", after := #[], guard := none }).run P w = .ok (.value (.tuple #[.bool true, kv q.1, q.2.1])) (ChangeMaps.setBlock w1 r (.mapIter (some b) since (seen.push q.2.2) c)) := by
      simp only [execOp, hx, Sem.run_bind, hrun, Result.andThen_ok, Sem.run_pure, entM]
    rw [this]
    have hs := set_upd (o' := .mapIter (some b) since (seen.push q.2.2) c) hr
    refine ⟨H1 q hq.1 (by simpa using hq.2) _ ?_ ?_, ?_⟩
    · rcases hw1 with rfl | rfl <;> exact hs.1
    · rw [← hw]
      rcases hw1 with rfl | rfl <;> exact hs.2
    · rcases hw1 with rfl | rfl <;> exact ⟨rfl, rfl, rfl⟩
theorem map_entryT {kv : α → Value} {b c r since : Nat} {seen : Array Nat} {es : List (α × Value × Nat)} (M : MapV kv h b es c) {e : α × Value × Nat} (he : e ∈ es) (hr : h[r]? = some (.mapIter (some b) since (seen.push e.2.2) c))
    {x : Operand} {Q : Value → Heap → Prop} (hx : ev er x = .pointer (some ⟨r, 0, none⟩)) (H : Q (.tuple #[kv e.1, e.2.1]) h) : opSem P (.entry x) ty er h Q := by
  refine opSem_pure rfl _ H fun w hw => ?_
  have M1 := M.obj
  rw [← hw] at M1 hr
  have := run_entry_at (P := P) w r b since seen _ c (entM kv e) hr M1 (by rw [List.toList_toArray]; exact List.mem_map.2 ⟨e, he, rfl⟩) (by
    rw [List.toList_toArray, List.map_map]
    exact M.born.imp (fun h => Nat.ne_of_lt h))
  simp only [execOp, hx, Sem.run_bind, this, Result.andThen_ok, Sem.run_pure, entM]
variable [DecidableEq α]
def findA (a : α) : List (α × Value × Nat) → Nat → Option (Nat × Value)
  | [], _ => none
  | x :: r, i => if a = x.1 then some (i, x.2.1) else findA a r (i + 1)
def getA (a : α) : List (α × Value × Nat) → Option Value
  | [] => none
  | x :: r => if a = x.1 then some x.2.1 else getA a r
def putA (a : α) (v : Value) (c : Nat) : List (α × Value × Nat) → List (α × Value × Nat)
  | [] => [(a, v, c)]
  | x :: r => if a = x.1 then (a, v, x.2.2) :: r else x :: putA a v c r
def delA (a : α) : List (α × Value × Nat) → List (α × Value × Nat)
  | [] => []
  | x :: r => if a = x.1 then r else x :: delA a r
theorem findA_none {a : α} : ∀ {es : List (α × Value × Nat)} {i : Nat}, findA a es i = none → getA a es = none ∧ (∀ v c, putA a v c es = es ++ [(a, v, c)]) ∧ delA a es = es
  | [], i, _ => ⟨rfl, fun _ _ => rfl, rfl⟩
  | x :: r, i, h => by
    unfold findA at h
    split at h
    · cases h
    · rename_i hx
      obtain ⟨h1, h2, h3⟩ := findA_none h
      exact ⟨by simp [getA, hx, h1], fun v c => by simp [putA, hx, h2], by simp [delA, hx, h3]⟩
theorem findA_some {a : α} : ∀ {es : List (α × Value × Nat)} {i j : Nat} {u : Value}, findA a es i = some (j, u) →
    ∃ k x, j = i + k ∧ es[k]? = some x ∧ x.1 = a ∧ x.2.1 = u ∧ getA a es = some u ∧ (∀ v c, putA a v c es = es.modify k (fun x => (a, v, x.2.2))) ∧ delA a es = es.eraseIdx k
  | [], i, j, u, h => by cases h
  | x :: r, i, j, u, h => by
    unfold findA at h
    split at h
    · rename_i hx
      cases h
      exact ⟨0, x, rfl, rfl, hx.symm, rfl, by simp [getA, hx], fun v c => by simp [putA, hx], by simp [delA, hx]⟩
    · rename_i hx
      obtain ⟨k, y, h1, h2, h3, h4, h5, h6, h7⟩ := findA_some h
      exact ⟨k + 1, y, by omega, by simpa using h2, h3, h4, by simp [getA, hx, h5], fun v c => by simp [putA, hx, h6], by simp [delA, hx, h7]⟩
structure Keys (P : Program) (kt : TypeId) (kv : α → Value) : Prop where
  find : ∀ (a : α) (es : List (α × Value × Nat)) (W : World), (Instr.findKey kt (kv a) (es.map (entM kv))).run P W = .ok (findA a es 0) W
  check : ∀ (a : α) (em : Bool) (W : World), (Instr.checkKey em 10000 kt (kv a)).run P W = .ok () W
  stays : ∀ (a : α) (W : World), (Instr.keyThatStays (kv a) (kv a)).run P W = .ok (kv a) W
theorem ask_keys {kt : TypeId} {ki : TI} {kf : α → T} {kv : α → Value} (tf : TF P kt ki) (vr : ∀ a, VR (fun _ => none) (kf a) (kv a)) (eq : ∀ a b, keyEq ki (kf a) (kf b) = some (decide (a = b))) (a : α) (W : World) :
    ∀ (es : List (α × Value × Nat)) (i : Nat), (Instr.findAsking kt (kv a) (es.map (entM kv)) i).run P W = .ok (findA a es i) W
  | [], i => by simp [Instr.findAsking, findA]
  | x :: es, i => by
    obtain ⟨q1, _⟩ := keyEq_run tf (vr a) (vr x.1) (eq a x.1) W
    have ih := ask_keys tf vr eq a W es (i + 1)
    by_cases hx : a = x.1
    · subst hx
      simp only [decide_true] at q1
      simp [Instr.findAsking, findA, entM, q1, Result.andThen]
    · simp [Instr.findAsking, findA, entM, q1, hx, Result.andThen] at q1 ih ⊢
      exact ih
theorem Keys.flat {kt : TypeId} {ki : TI} {kf : α → T} {kv : α → Value} (hw : (match P.underlying kt with | some (.array _ _) | some (.struct _) => true | _ => false) = true) (tf : TF P kt ki) (vr : ∀ a, VR (fun _ => none) (kf a) (kv a)) (eq : ∀ a b, keyEq ki (kf a) (kf b) = some (decide (a = b))) : Keys P kt kv where
  find a es W := by
    rw [run_findKey_eq W hw]
    exact ask_keys tf vr eq a W es 0
  check a em W := check_run tf (vr a) (by rw [eq a a]; simp) em W
  stays a W := stays_run (vr a) (by rw [eq a a]; simp) W
def clkA (a : α) (es : List (α × Value × Nat)) (c : Nat) : Nat := if (getA a es).isSome then c else c + 1
theorem put_born {a : α} {v : Value} {c : Nat} : ∀ {es : List (α × Value × Nat)}, (putA a v c es).map (·.2.2) = es.map (·.2.2) ++ (if (getA a es).isSome then [] else [c])
  | [] => rfl
  | x :: r => by
    by_cases hx : a = x.1
    · simp [putA, getA, hx]
    · simp [putA, getA, hx, put_born (es := r)]
theorem del_sub {a : α} : ∀ {es : List (α × Value × Nat)}, (delA a es).Sublist es
  | [] => List.Sublist.refl _
  | x :: r => by
    by_cases hx : a = x.1
    · simp [delA, hx]
    · simp only [delA, hx, if_false]; exact del_sub.cons_cons x
theorem MapV.put {kv : α → Value} {b c : Nat} {es : List (α × Value × Nat)} {h' : Heap} {a : α} {v : Value} (M : MapV kv h b es c) (ho : h'[b]? = some (.map ((putA a v c es).map (entM kv)).toArray (clkA a es c))) : MapV kv h' b (putA a v c es) (clkA a es c) := by
  refine ⟨ho, ?_, fun x hx => ?_⟩
  · rw [put_born]
    split
    · simpa using M.born
    · rw [List.pairwise_append]
      refine ⟨M.born, by simp, fun y hy z hz => ?_⟩
      obtain ⟨q, hq, rfl⟩ := List.mem_map.1 hy
      have := M.lt q hq
      simp at hz
      omega
  · have h1 : x.2.2 ∈ (putA a v c es).map (·.2.2) := List.mem_map.2 ⟨x, hx, rfl⟩
    rw [put_born] at h1
    unfold clkA
    rcases List.mem_append.1 h1 with h1 | h1
    · obtain ⟨q, hq, hqe⟩ := List.mem_map.1 h1
      have := M.lt q hq
      split <;> omega
    · split at h1
      · cases h1
      · rename_i hn
        simp at h1
        rw [if_neg hn]
        omega
theorem MapV.del {kv : α → Value} {b c : Nat} {es : List (α × Value × Nat)} {h' : Heap} {a : α} (M : MapV kv h b es c) (ho : h'[b]? = some (.map ((delA a es).map (entM kv)).toArray c)) : MapV kv h' b (delA a es) c :=
  ⟨ho, M.born.sublist (del_sub.map _), fun x hx => M.lt x (del_sub.subset hx)⟩
theorem map_putT {u kt vt : TypeId} {kv : α → Value} (hu : P.underlying u = some (.map kt vt)) (K : Keys P kt kv) {b c : Nat} {es : List (α × Value × Nat)} (M : MapV kv h b es c) {a : α} {v : Value}
    {x k y : Operand} {Q : Value → Heap → Prop} (hx : ev er x = .map (some b)) (hk : ev er k = kv a) (hy : ev er y = v)
    (H : ∀ h', MapV kv h' b (putA a v c es) (clkA a es c) → Upd h h' b → Q undef h') : opSem P (.mapUpdate u x k y) ty er h Q := by
  have hs := set_upd (o' := .map ((putA a v c es).map (entM kv)).toArray (clkA a es c)) M.obj
  refine opSem_skip rfl (h.setIfInBounds b (.map ((putA a v c es).map (entM kv)).toArray (clkA a es c))) (H _ (M.put hs.1) hs.2) fun W hW => ⟨{ W with heap := W.heap.setIfInBounds b (.map ((putA a v c es).map (entM kv)).toArray (clkA a es c)) }, ?_, by rw [hW], rfl, rfl, rfl⟩
  have M1 := M.obj
  rw [← hW] at M1
  have c1 := K.check a false W
  have f1 := K.find a es W
  have g1 := MapKept.run_getObj_map (P := P) M1
  have g2 := MapKept.run_setObj_map (P := P) (.map ((putA a v c es).map (entM kv)).toArray (clkA a es c)) M1
  cases hf : findA a es 0 with
  | none =>
    obtain ⟨q1, q2, _⟩ := findA_none hf
    have e1 : ((es.map (entM kv)).toArray.push { key := kv a, val := v, born := c }) = ((putA a v c es).map (entM kv)).toArray := by simp [q2, entM]
    have e2 : clkA a es c = c + 1 := by simp [clkA, q1]
    rw [hf] at f1
    rw [e2] at g2 ⊢
    simp only [execOp, Instr.mapUpdate, hx, hk, hy, Sem.run_bind, run_underlying hu, Result.andThen_ok, g1, c1, List.toList_toArray, f1, e1, g2, Sem.run_pure]
  | some r =>
    obtain ⟨j, u0⟩ := r
    obtain ⟨k0, x0, h1, h2, h3, h4, h5, h6, _⟩ := findA_some hf
    have h1 : j = k0 := by omega
    subst h1
    have e1 : ((es.map (entM kv)).toArray.modify j fun e => { e with key := kv a, val := v }) = ((putA a v c es).map (entM kv)).toArray := by
      apply Array.toList_inj.1
      rw [modify_toList, h6]
      apply List.ext_getElem?
      intro i
      simp only [List.toList_toArray, List.getElem?_modify, List.getElem?_map, Option.map_map]
      split
      · cases es[i]? <;> simp [entM]
      · cases es[i]? <;> simp [entM]
    have e2 : clkA a es c = c := by simp [clkA, h5]
    have e3 : ((es.map (entM kv)).toArray[j]?.map (·.key)).getD (kv a) = kv a := by simp [h2, entM, h3]
    have st := K.stays a W
    rw [hf] at f1
    rw [e2] at g2 ⊢
    simp only [execOp, Instr.mapUpdate, hx, hk, hy, Sem.run_bind, run_underlying hu, Result.andThen_ok, g1, c1, List.toList_toArray, f1, e3, st, e1, g2, Sem.run_pure]
theorem map_getT {u kt vt : TypeId} {kv : α → Value} {z : Value} (hu : P.underlying u = some (.map kt vt)) (hz : zeroT P vt = some z) (K : Keys P kt kv) {b c : Nat} {es : List (α × Value × Nat)} (M : MapV kv h b es c) {a : α} {ok : Bool}
    {x k : Operand} {Q : Value → Heap → Prop} (hx : ev er x = .map (some b)) (hk : ev er k = kv a)
    (H : Q (if ok then .tuple #[(getA a es).getD z, .bool (getA a es).isSome] else (getA a es).getD z) h) : opSem P (.lookup u x k ok) ty er h Q := by
  refine opSem_pure rfl _ H fun W hW => ?_
  have M1 := M.obj
  rw [← hW] at M1
  have c1 := fun em => K.check a em W
  have f1 := K.find a es W
  have g1 := MapKept.run_getObj_map (P := P) M1
  have hz' : (zeroValue vt).run P W = .ok z W := by
    unfold zeroT at hz
    cases hj : P.info? vt with
    | none => simp [hj] at hz
    | some i => simp only [hj, Option.bind_some] at hz; simp [zeroValue, typeInfo, hj, hz]
  cases hf : findA a es 0 with
  | none =>
    obtain ⟨q1, _, _⟩ := findA_none hf
    rw [hf] at f1
    rw [q1]
    cases ok <;> simp [execOp, Instr.lookup, hx, hk, run_underlying hu, g1, c1, f1, hz', Result.andThen]
  | some r =>
    obtain ⟨j, u0⟩ := r
    obtain ⟨k0, x0, h1, h2, h3, h4, h5, _, h7⟩ := findA_some hf
    rw [hf] at f1
    rw [h5]
    cases ok <;> simp [execOp, Instr.lookup, hx, hk, run_underlying hu, g1, c1, f1, Result.andThen]
end maps
end Go.Eng
end
section
set_option linter.unusedVariables false
set_option linter.unusedSimpArgs false
namespace Go.Eng
open Go
structure Chg (h h' : Heap) (b : Nat) : Prop where
  size : h.size ≤ h'.size
  old : ∀ c, c < h.size → c ≠ b → h'[c]? = h[c]?
theorem Chg.refl (h : Heap) (b : Nat) : Chg h h b := ⟨Nat.le_refl _, fun _ _ _ => rfl⟩
theorem Chg.of_ext {h h' : Heap} (x : Ext h h') (b : Nat) : Chg h h' b := ⟨x.size, fun c hc _ => x.old c hc⟩
theorem Chg.trans {h h' h'' : Heap} {b : Nat} (x : Chg h h' b) (y : Chg h' h'' b) : Chg h h'' b := ⟨Nat.le_trans x.size y.size, fun c hc hne => (y.old c (Nat.lt_of_lt_of_le hc x.size) hne).trans (x.old c hc hne)⟩
theorem Chg.get {h h' : Heap} {b c : Nat} {o : Obj} (x : Chg h h' b) (hc : h[c]? = some o) (hne : c ≠ b) : h'[c]? = some o := (x.old c (lt_of_get hc) hne).trans hc
theorem Chg.upd {h h' h'' : Heap} {b : Nat} (x : Chg h h' b) (u : Upd h' h'' b) : Chg h h'' b := ⟨by rw [u.size]; exact x.size, fun c hc hne => (u.old c hne).trans (x.old c hc hne)⟩
theorem Chg.ext {h h' h'' : Heap} {b : Nat} (x : Chg h h' b) (y : Ext h' h'') : Chg h h'' b := x.trans (.of_ext y b)
theorem Chg.push {h h' : Heap} {b : Nat} (x : Chg h h' b) (o : Obj) : Chg h (h'.push o) b := x.ext ((Ext.refl h').push o)
theorem Chg.fresh {h0 h h' : Heap} {b : Nat} (x : Ext h0 h) (c : Chg h h' b) (hb : h0.size ≤ b) : Ext h0 h' := ⟨Nat.le_trans x.size c.size, fun i hi => (c.old i (Nat.lt_of_lt_of_le hi x.size) (by omega)).trans (x.old i hi)⟩
theorem Row.chg {h h' : Heap} {b : Nat} {a : Option Addr} {cs : List Value} {ents : Array MapEntry} {c : Nat} (H : Row h a cs) (hb : h[b]? = some (.map ents c)) (x : Chg h h' b) : Row h' a cs := by
  rcases H with H | ⟨g, off, cur, ct, fr, h1, h2, h3, h4⟩
  · exact .inl H
  · refine .inr ⟨g, off, cur, ct, fr, h1, x.get h2 ?_, h3, h4⟩
    rintro rfl
    rw [hb] at h2
    cases h2
theorem IntsV.chg {h h' : Heap} {b n : Nat} {a : Option Addr} {xs : List Int} {ents : Array MapEntry} {c : Nat} (H : IntsV h a n xs) (hb : h[b]? = some (.map ents c)) (x : Chg h h' b) : IntsV h' a n xs := ⟨H.len, H.row.chg hb x⟩
section maps
variable {α : Type} [DecidableEq α]
theorem getA_put {a a' : α} {v : Value} {c : Nat} : ∀ {es : List (α × Value × Nat)}, getA a' (putA a v c es) = if a' = a then some v else getA a' es
  | [] => by simp only [putA, getA]
  | x :: es => by
    have ih := getA_put (a := a) (a' := a') (v := v) (c := c) (es := es)
    by_cases hx : a = x.1
    · simp only [putA, hx, if_true, getA]
      by_cases h : a' = x.1 <;> simp [h]
    · simp only [putA, hx, if_false, getA, ih]
      by_cases h : a' = x.1
      · have : ¬ a' = a := fun e => hx (by rw [← e, h])
        simp [h, this]
        intro e; exact absurd e.symm hx
      · simp [h]
theorem getA_del {a a' : α} (hne : a' ≠ a) : ∀ {es : List (α × Value × Nat)}, getA a' (delA a es) = getA a' es
  | [] => rfl
  | x :: es => by
    by_cases hx : a = x.1
    · have : ¬ a' = x.1 := fun e => hne (by rw [e, hx])
      simp [delA, hx, getA, this]
    · simp only [delA, hx, if_false, getA, getA_del hne (es := es)]
theorem put_keys {a : α} {v : Value} {c : Nat} : ∀ {es : List (α × Value × Nat)}, (putA a v c es).map (·.1) = if a ∈ es.map (·.1) then es.map (·.1) else es.map (·.1) ++ [a]
  | [] => by simp [putA]
  | x :: es => by
    have ih := put_keys (a := a) (v := v) (c := c) (es := es)
    by_cases hx : a = x.1
    · simp [putA, hx]
    · simp only [putA, hx, if_false, List.map_cons, ih, List.mem_cons, false_or]
      split <;> simp
theorem put_nodup {a : α} {v : Value} {c : Nat} {es : List (α × Value × Nat)} (h : (es.map (·.1)).Nodup) : ((putA a v c es).map (·.1)).Nodup := by
  rw [put_keys]
  split
  · exact h
  · rename_i hn
    rw [List.nodup_append]
    refine ⟨h, by simp, ?_⟩
    intro x hx y hy
    simp at hy
    subst hy
    exact fun e => hn (by rw [← e]; exact hx)
theorem del_nodup {a : α} {es : List (α × Value × Nat)} (h : (es.map (·.1)).Nodup) : ((delA a es).map (·.1)).Nodup := h.sublist (del_sub.map _)
theorem getA_mem {a : α} : ∀ {es : List (α × Value × Nat)}, (es.map (·.1)).Nodup → ∀ {x}, x ∈ es → x.1 = a → getA a es = some x.2.1
  | [], _, x, h, _ => by cases h
  | y :: es, hn, x, h, he => by
    rw [List.map_cons, List.nodup_cons] at hn
    rcases List.mem_cons.1 h with rfl | h
    · simp [getA, he]
    · have : ¬ a = y.1 := fun e => hn.1 (by rw [← e, ← he]; exact List.mem_map.2 ⟨x, h, rfl⟩)
      simp only [getA, this, if_false]
      exact getA_mem hn.2 h he
theorem mem_getA {a : α} {v : Value} : ∀ {es : List (α × Value × Nat)}, getA a es = some v → ∃ c, (a, v, c) ∈ es
  | [], h => by cases h
  | x :: es, h => by
    simp only [getA] at h
    split at h
    · rename_i hx
      cases h
      exact ⟨x.2.2, by rw [hx]; simp⟩
    · obtain ⟨c, hc⟩ := mem_getA h
      exact ⟨c, by simp [hc]⟩
end maps
def leftN (r b : Nat) (h : Heap) : Nat := match h[r]?, h[b]? with
  | some (.mapIter _ _ seen _), some (.map es _) => (es.toList.filter fun e => !seen.contains e.born).length
  | _, _ => 0
theorem leftN_eq {α : Type} {kv : α → Value} {r b since c0 c : Nat} {seen : Array Nat} {h : Heap} {es : List (α × Value × Nat)} (M : MapV kv h b es c) (hr : h[r]? = some (.mapIter (some b) since seen c0)) : leftN r b h = (es.filter fun x => !seen.contains x.2.2).length := by
  rw [leftN, hr, M.obj]
  simp only [List.toList_toArray, List.filter_map, List.length_map]
  rfl
theorem filter_lt {α : Type} {p q : α → Bool} : ∀ {l : List α}, (∀ x ∈ l, q x = true → p x = true) → ∀ {e : α}, e ∈ l → p e = true → q e = false → (l.filter q).length < (l.filter p).length
  | [], _, e, h, _, _ => by cases h
  | y :: l, hs, e, h, hp, hq => by
    have hle : (l.filter q).length ≤ (l.filter p).length := by
      have : l.filter q = (l.filter p).filter q := by
        rw [List.filter_filter]
        apply List.filter_congr
        intro x hx
        by_cases hqx : q x = true
        · simp [hqx, hs x (by simp [hx]) hqx]
        · simp [hqx]
      rw [this]
      exact List.length_filter_le _ _
    rcases List.mem_cons.1 h with rfl | h
    · simp only [List.filter_cons, hp, hq, if_true, List.length_cons]
      simp
      omega
    · have ih := filter_lt (p := p) (q := q) (fun x hx => hs x (by simp [hx])) h hp hq
      simp only [List.filter_cons]
      by_cases hqy : q y = true
      · simp [hqy, hs y (by simp) hqy, ih]
      · by_cases hpy : p y = true
        · simp [hqy, hpy]; omega
        · simp [hqy, hpy, ih]
end Go.Eng
end
section
namespace Go.Proofs.Ytmgkeeefbfefgaa
set_option linter.unusedSimpArgs false
set_option linter.unusedVariables false
set_option linter.defProp false
set_option linter.unusedSectionVars false
namespace MB
theorem nodup_le : ∀ {l m : List Nat}, l.Nodup → (∀ x ∈ l, x ∈ m) → l.length ≤ m.length
  | [], _, _, _ => by simp
  | x :: l, m, hn, h => by
    obtain ⟨h1, h2⟩ := List.nodup_cons.1 hn
    have h3 := nodup_le (l := l) (m := m.erase x) h2 (fun y hy => (List.mem_erase_of_ne (fun e => h1 (by rw [← e]; exact hy))).2 (h y (List.mem_cons_of_mem _ hy)))
    have hx := h x List.mem_cons_self
    rw [List.length_erase_of_mem hx] at h3
    have h4 := List.length_pos_of_mem hx
    rw [List.length_cons]
    omega
def cnt (P : Nat → Bool) (n : Nat) : Nat := ((List.range n).filter P).length
theorem cnt_succ (P : Nat → Bool) (n : Nat) : cnt P (n + 1) = cnt P n + if P n = true then 1 else 0 := by
  rw [cnt, List.range_succ, List.filter_append, List.length_append]
  cases h : P n <;> simp [h, cnt]
theorem cnt_zero (P : Nat → Bool) : cnt P 0 = 0 := rfl
theorem cnt_le (P : Nat → Bool) (n : Nat) : cnt P n ≤ n := by
  have := List.length_filter_le P (List.range n)
  rw [List.length_range] at this
  exact this
def right (sh mo c : Nat → Nat) (n : Nat) : Prop := ∀ i k, i < n → k < n → i ≠ k → c i = c k → sh i ≠ sh k ∧ mo i ≠ mo k
inductive Rch (sh mo c : Nat → Nat) (n a b m : Nat) : Nat → Prop
  | base (i : Nat) : i < n → mo i = m → c i = a → Rch sh mo c n a b m i
  | bys (i k : Nat) : Rch sh mo c n a b m i → c i = a → k < n → sh k = sh i → c k = b → Rch sh mo c n a b m k
  | bym (i k : Nat) : Rch sh mo c n a b m i → c i = b → k < n → mo k = mo i → c k = a → Rch sh mo c n a b m k
theorem Rch.lt {sh mo c : Nat → Nat} {n a b m i : Nat} (h : Rch sh mo c n a b m i) : i < n := by cases h <;> assumption
theorem Rch.two {sh mo c : Nat → Nat} {n a b m i : Nat} (h : Rch sh mo c n a b m i) : c i = a ∨ c i = b := by
  cases h with
  | base _ _ _ h => exact .inl h
  | bys _ _ _ _ _ _ h => exact .inr h
  | bym _ _ _ _ _ _ h => exact .inl h
theorem Rch.closed {sh mo c : Nat → Nat} {n a b m i k : Nat} (R : right sh mo c n) (hab : a ≠ b) (hb : ∀ i, i < n → mo i = m → c i ≠ b) (h : Rch sh mo c n a b m i) (hk : k < n) (hc : c k = a ∨ c k = b) (hcl : sh i = sh k ∨ mo i = mo k) : Rch sh mo c n a b m k := by
  by_cases hik : i = k
  · exact hik ▸ h
  have hi := h.lt
  have same : c i = c k → False := fun e => by
    have := R i k hi hk hik e
    rcases hcl with h1 | h1
    · exact this.1 h1
    · exact this.2 h1
  rcases h.two with hia | hib
  · rcases hc with hka | hkb
    · exact (same (hia.trans hka.symm)).elim
    · rcases hcl with h1 | h1
      · exact .bys i k h hia hk h1.symm hkb
      · cases h with
        | base _ _ hm _ => exact absurd hkb (hb k hk (h1.symm.trans hm))
        | bys _ _ _ _ _ _ h2 => exact absurd (hia.symm.trans h2) hab
        | bym j _ hj hjb _ hm _ =>
          by_cases hjk : j = k
          · exact hjk ▸ hj
          · exact absurd (hm.symm.trans h1) (R j k hj.lt hk hjk (hjb.trans hkb.symm)).2
  · rcases hc with hka | hkb
    · rcases hcl with h1 | h1
      · cases h with
        | base _ _ _ h2 => exact absurd (h2.symm.trans hib) hab
        | bys j _ hj hja _ hs _ =>
          by_cases hjk : j = k
          · exact hjk ▸ hj
          · exact absurd (hs.symm.trans h1) (R j k hj.lt hk hjk (hja.trans hka.symm)).1
        | bym _ _ _ _ _ _ h2 => exact absurd (h2.symm.trans hib) hab
      · exact .bym i k h hib hk h1.symm hka
    · exact (same (hib.trans hkb.symm)).elim
end MB
end Go.Proofs.Ytmgkeeefbfefgaa
end
section
namespace Go.Proofs.Ytmgkeeefbfefgaa
set_option linter.unusedSimpArgs false
set_option linter.unusedVariables false
set_option linter.defProp false
set_option linter.unusedSectionVars false
namespace MB
theorem cnt_congr {P Q : Nat → Bool} {n : Nat} (h : ∀ i, i < n → P i = Q i) : cnt P n = cnt Q n := by
  induction n with
  | zero => rfl
  | succ n ih => rw [cnt_succ, cnt_succ, ih fun i hi => h i (by omega), h n (by omega)]
theorem cnt_set {P Q : Nat → Bool} {n a : Nat} (ha : a < n) (h : ∀ i, i ≠ a → P i = Q i) : cnt P n + (if Q a = true then 1 else 0) = cnt Q n + (if P a = true then 1 else 0) := by
  induction n with
  | zero => omega
  | succ n ih =>
    rw [cnt_succ, cnt_succ]
    by_cases hn : a = n
    · subst hn
      rw [cnt_congr (P := P) (Q := Q) fun i hi => h i (by omega)]
      omega
    · have h1 := ih (by omega)
      rw [h n (fun e => hn e.symm)]
      omega
theorem cnt_pos {P : Nat → Bool} {n : Nat} (h : 1 ≤ cnt P n) : ∃ i, i < n ∧ P i = true := by
  induction n with
  | zero => exact absurd h (by rw [cnt_zero]; omega)
  | succ n ih =>
    rw [cnt_succ] at h
    by_cases hp : P n = true
    · exact ⟨n, by omega, hp⟩
    · rw [if_neg hp] at h
      obtain ⟨i, hi, h1⟩ := ih h
      exact ⟨i, by omega, h1⟩
theorem cnt_one {P : Nat → Bool} {n i k : Nat} (h : cnt P n ≤ 1) (hi : i < n) (hk : k < n) (hpi : P i = true) (hpk : P k = true) : i = k := by
  apply Classical.byContradiction
  intro hne
  have h1 := nodup_le (l := [i, k]) (m := (List.range n).filter P) (by simp [hne]) (fun x hx => by
    simp only [List.mem_cons, List.not_mem_nil, or_false] at hx
    rcases hx with rfl | rfl
    · exact List.mem_filter.2 ⟨List.mem_range.2 hi, hpi⟩
    · exact List.mem_filter.2 ⟨List.mem_range.2 hk, hpk⟩)
  have h2 : ((List.range n).filter P).length ≤ 1 := h
  simp only [List.length_cons, List.length_nil] at h1
  omega
structure St where
  by_ : Nat → Option Nat
  seen : Nat → Bool
def St.mark (t : St) (m : Nat) : St := ⟨t.by_, fun x => if x = m then true else t.seen x⟩
def St.give (t : St) (m i : Nat) : St := ⟨fun x => if x = m then some i else t.by_ x, t.seen⟩
def seekW (sh mo : Nat → Nat) (rec : Nat → St → Bool × St) (shop : Nat) : List Nat → St → Bool × St
  | [], t => (false, t)
  | i :: l, t =>
    if sh i ≠ shop ∨ t.seen (mo i) = true then seekW sh mo rec shop l t
    else match t.by_ (mo i) with
      | none => (true, (t.mark (mo i)).give (mo i) i)
      | some old =>
        if (rec (sh old) (t.mark (mo i))).1 = true then (true, (rec (sh old) (t.mark (mo i))).2.give (mo i) i)
        else seekW sh mo rec shop l (rec (sh old) (t.mark (mo i))).2
def seek (sh mo : Nat → Nat) (sm : List Nat) : Nat → Nat → St → Bool × St
  | 0, _, t => (false, t)
  | f + 1, shop, t => seekW sh mo (seek sh mo sm f) shop sm t
def isOf (sh : Nat → Nat) (t : St) (s m : Nat) : Bool := match t.by_ m with | some i => sh i == s | none => false
def served (sh : Nat → Nat) (M : Nat) (t : St) (s : Nat) : Nat := cnt (isOf sh t s) M
structure Closed (sh mo : Nat → Nat) (sm : List Nat) (t : St) (Ds Dm : Nat → Prop) : Prop where
  m : ∀ m, Dm m → ∃ i, t.by_ m = some i ∧ Ds (sh i)
  s : ∀ i, i ∈ sm → Ds (sh i) → Dm (mo i)
structure Inv (mo : Nat → Nat) (sm : List Nat) (t : St) : Prop where
  ok : ∀ m i, t.by_ m = some i → i ∈ sm ∧ mo i = m
structure Post (sh mo : Nat → Nat) (sm : List Nat) (M shop : Nat) (L : List Nat) (t : St) (r : Bool) (t' : St) : Prop where
  up : ∀ m, t.seen m = true → t'.seen m = true
  inv : Inv mo sm t'
  no : r = false → t'.by_ = t.by_ ∧ (∀ i, i ∈ L → sh i = shop → t'.seen (mo i) = true) ∧ ∀ m, t'.seen m = true → t.seen m ≠ true → ∃ i, t.by_ m = some i ∧ ∀ k, k ∈ sm → sh k = sh i → t'.seen (mo k) = true
  yes : r = true → (∀ s, served sh M t' s = served sh M t s + if s = shop then 1 else 0) ∧ (∀ m, t.seen m = true → t'.by_ m = t.by_ m) ∧ ∀ Ds Dm, Closed sh mo sm t Ds Dm → ¬ Ds shop ∧ ∀ m, Dm m → t'.by_ m = t.by_ m
def unseen (M : Nat) (t : St) : Nat := cnt (fun m => !t.seen m) M
theorem unseen_mark {M m : Nat} {t : St} (hm : m < M) (h : t.seen m ≠ true) : unseen M (t.mark m) + 1 = unseen M t := by
  have h1 := cnt_set (P := fun x => !(t.mark m).seen x) (Q := fun x => !t.seen x) hm (fun i hi => by
    show (!(if i = m then true else t.seen i)) = _
    rw [if_neg hi])
  have h2 : (t.mark m).seen m = true := by show (if m = m then true else t.seen m) = true; rw [if_pos rfl]
  simp only [h2, Bool.not_true, Bool.false_eq_true, if_false, Nat.add_zero] at h1
  have h3 : t.seen m = false := by simpa using h
  simp only [h3, Bool.not_false, if_true] at h1
  exact h1
theorem unseen_le {M : Nat} {t t' : St} (h : ∀ m, t.seen m = true → t'.seen m = true) : unseen M t' ≤ unseen M t := by
  unfold unseen
  induction M with
  | zero => exact Nat.le_refl _
  | succ M ih =>
    rw [cnt_succ, cnt_succ]
    have := h M
    cases h1 : t.seen M <;> cases h2 : t'.seen M <;> simp_all <;> omega
theorem served_by {sh : Nat → Nat} {M : Nat} {t t' : St} (h : t'.by_ = t.by_) (s : Nat) : served sh M t' s = served sh M t s := by
  unfold served
  exact cnt_congr fun i _ => by unfold isOf; rw [h]
theorem Closed.of_by {sh mo : Nat → Nat} {sm : List Nat} {t t' : St} {Ds Dm : Nat → Prop} (h : t'.by_ = t.by_) (c : Closed sh mo sm t Ds Dm) : Closed sh mo sm t' Ds Dm := ⟨fun m hm => by rw [h]; exact c.m m hm, c.s⟩
theorem Inv.of_by {mo : Nat → Nat} {sm : List Nat} {t t' : St} (h : t'.by_ = t.by_) (c : Inv mo sm t) : Inv mo sm t' := ⟨fun m i hi => c.ok m i (by rw [← h]; exact hi)⟩
theorem Inv.give {mo : Nat → Nat} {sm : List Nat} {t : St} {i : Nat} (c : Inv mo sm t) (hi : i ∈ sm) : Inv mo sm (t.give (mo i) i) := ⟨fun m j hj => by
  have hj : (if m = mo i then some i else t.by_ m) = some j := hj
  split at hj
  · cases hj; rename_i h; exact ⟨hi, h.symm⟩
  · exact c.ok m j hj⟩
theorem mark_self (t : St) (m : Nat) : (t.mark m).seen m = true := by show (if m = m then true else t.seen m) = true; rw [if_pos rfl]
theorem mark_up {t : St} {m x : Nat} (h : t.seen x = true) : (t.mark m).seen x = true := by
  show (if x = m then true else t.seen x) = true
  split
  · rfl
  · exact h
theorem mark_new {t : St} {m x : Nat} (h : (t.mark m).seen x = true) (h2 : t.seen x ≠ true) : x = m := by
  have h : (if x = m then true else t.seen x) = true := h
  split at h
  · assumption
  · exact absurd h h2
theorem served_give {sh mo : Nat → Nat} {M : Nat} {t : St} {i : Nat} (hm : mo i < M) (s : Nat) : served sh M (t.give (mo i) i) s + (if isOf sh t s (mo i) = true then 1 else 0) = served sh M t s + if s = sh i then 1 else 0 := by
  have h1 := cnt_set (P := isOf sh (t.give (mo i) i) s) (Q := isOf sh t s) hm (fun x hx => by
    unfold isOf
    rw [show (t.give (mo i) i).by_ x = t.by_ x from if_neg hx])
  have h2 : isOf sh (t.give (mo i) i) s (mo i) = (sh i == s) := by
    unfold isOf
    rw [show (t.give (mo i) i).by_ (mo i) = some i from if_pos rfl]
  rw [h2] at h1
  unfold served
  rw [h1]
  by_cases e : s = sh i
  · rw [if_pos e, if_pos (by simp [e])]
  · rw [if_neg e, if_neg (by simp [Ne.symm e])]
theorem seekW_post {sh mo : Nat → Nat} {sm : List Nat} {M shop f : Nat} {rec : Nat → St → Bool × St} (hmo : ∀ i, i ∈ sm → mo i < M)
    (hrec : ∀ s t, Inv mo sm t → unseen M t < f → Post sh mo sm M s sm t (rec s t).1 (rec s t).2) :
    ∀ (L : List Nat) (t : St), (∀ i, i ∈ L → i ∈ sm) → Inv mo sm t → unseen M t ≤ f → Post sh mo sm M shop L t (seekW sh mo rec shop L t).1 (seekW sh mo rec shop L t).2
  | [], t, hL, hI, hf => ⟨fun m h => h, hI, fun _ => ⟨rfl, fun i hi => absurd hi List.not_mem_nil, fun m h h2 => absurd h h2⟩, fun h => by cases h⟩
  | i :: l, t, hL, hI, hf => by
    have hi := hL i List.mem_cons_self
    have hL2 : ∀ j, j ∈ l → j ∈ sm := fun j hj => hL j (List.mem_cons_of_mem _ hj)
    by_cases h1 : sh i ≠ shop ∨ t.seen (mo i) = true
    · have e : seekW sh mo rec shop (i :: l) t = seekW sh mo rec shop l t := by rw [seekW, if_pos h1]
      rw [e]
      have P := seekW_post (shop := shop) hmo hrec l t hL2 hI hf
      refine ⟨P.up, P.inv, fun hr => ?_, P.yes⟩
      obtain ⟨p1, p2, p3⟩ := P.no hr
      refine ⟨p1, fun j hj hs => ?_, p3⟩
      rcases List.mem_cons.1 hj with rfl | hj
      · rcases h1 with h1 | h1
        · exact absurd hs h1
        · exact P.up _ h1
      · exact p2 j hj hs
    have hsi : sh i = shop := Classical.not_not.1 fun h => h1 (.inl h)
    have hun : t.seen (mo i) ≠ true := fun h => h1 (.inr h)
    have hM := hmo i hi
    have hu := unseen_mark hM hun
    have hI1 : Inv mo sm (t.mark (mo i)) := Inv.of_by (t := t) rfl hI
    cases hb : t.by_ (mo i) with
    | none =>
      have e : seekW sh mo rec shop (i :: l) t = (true, (t.mark (mo i)).give (mo i) i) := by rw [seekW, if_neg h1, hb]
      rw [e]
      refine ⟨fun m h => mark_up h, hI1.give hi, fun h => Bool.noConfusion h, fun _ => ⟨fun s => ?_, fun m hm => ?_, fun Ds Dm c => ⟨fun hs => ?_, fun m hm => ?_⟩⟩⟩
      · have h2 := served_give (sh := sh) (mo := mo) (t := t.mark (mo i)) hM s
        have h3 : isOf sh (t.mark (mo i)) s (mo i) = false := by
          unfold isOf
          rw [show (t.mark (mo i)).by_ (mo i) = none from hb]
        rw [h3, hsi, served_by (t := t) (t' := t.mark (mo i)) rfl] at h2
        simpa using h2
      · exact if_neg (fun e : m = mo i => hun (e ▸ hm))
      · obtain ⟨j, hj, _⟩ := c.m _ (c.s i hi (hsi.symm ▸ hs))
        rw [hb] at hj; cases hj
      · refine if_neg (fun e => ?_)
        obtain ⟨j, hj, _⟩ := c.m m hm
        rw [e, hb] at hj; cases hj
    | some old =>
      have P1 := hrec (sh old) (t.mark (mo i)) hI1 (by omega)
      obtain ⟨r1, hr1⟩ : ∃ r, (rec (sh old) (t.mark (mo i))).1 = r := ⟨_, rfl⟩
      obtain ⟨t2, ht2⟩ : ∃ r, (rec (sh old) (t.mark (mo i))).2 = r := ⟨_, rfl⟩
      rw [hr1, ht2] at P1
      cases r1 with
      | true =>
        have e : seekW sh mo rec shop (i :: l) t = (true, t2.give (mo i) i) := by rw [seekW, if_neg h1, hb]; simp only [hr1, ht2, if_true]
        rw [e]
        obtain ⟨q1, q2, q3⟩ := P1.yes rfl
        have hb2 : t2.by_ (mo i) = some old := (q2 _ (mark_self t (mo i))).trans hb
        refine ⟨fun m h => P1.up m (mark_up h), P1.inv.give hi, fun h => Bool.noConfusion h, fun _ => ⟨fun s => ?_, fun m hm => ?_, fun Ds Dm c => ?_⟩⟩
        · have h2 := served_give (sh := sh) (mo := mo) (t := t2) hM s
          have h3 : isOf sh t2 s (mo i) = (sh old == s) := by unfold isOf; rw [hb2]
          rw [h3, q1 s, served_by (t := t) (t' := t.mark (mo i)) rfl, hsi] at h2
          by_cases e : s = sh old
          · rw [if_pos e, if_pos (by simp [e])] at h2
            show served sh M (t2.give (mo i) i) s = _
            omega
          · rw [if_neg e, if_neg (by simp [Ne.symm e])] at h2
            show served sh M (t2.give (mo i) i) s = _
            omega
        · have : (t2.give (mo i) i).by_ m = t2.by_ m := if_neg (fun e : m = mo i => hun (e ▸ hm))
          show (t2.give (mo i) i).by_ m = _
          rw [this, q2 m (mark_up hm)]
          rfl
        · obtain ⟨z1, z2⟩ := q3 Ds Dm (Closed.of_by (t := t) rfl c)
          refine ⟨fun hs => ?_, fun m hm => ?_⟩
          · obtain ⟨j, hj, hd⟩ := c.m _ (c.s i hi (hsi.symm ▸ hs))
            rw [hb] at hj; cases hj
            exact z1 hd
          · have hne : m ≠ mo i := fun e => by
              obtain ⟨j, hj, hd⟩ := c.m m hm
              rw [e, hb] at hj; cases hj
              exact z1 hd
            have : (t2.give (mo i) i).by_ m = t2.by_ m := if_neg hne
            show (t2.give (mo i) i).by_ m = _
            rw [this, z2 m hm]
            rfl
      | false =>
        have e : seekW sh mo rec shop (i :: l) t = seekW sh mo rec shop l t2 := by rw [seekW, if_neg h1, hb]; simp only [hr1, ht2, Bool.false_eq_true, if_false]
        rw [e]
        obtain ⟨q1, q2, q3⟩ := P1.no rfl
        have hby : t2.by_ = t.by_ := q1
        have hu2 := unseen_le (M := M) P1.up
        have P2 := seekW_post (shop := shop) hmo hrec l t2 hL2 P1.inv (by omega)
        refine ⟨fun m h => P2.up m (P1.up m (mark_up h)), P2.inv, fun hr => ?_, fun hr => ?_⟩
        · obtain ⟨p1, p2, p3⟩ := P2.no hr
          refine ⟨p1.trans hby, fun j hj hs => ?_, fun m hm hn => ?_⟩
          · rcases List.mem_cons.1 hj with rfl | hj
            · exact P2.up _ (P1.up _ (mark_self t _))
            · exact p2 j hj hs
          · by_cases h2 : t2.seen m = true
            · by_cases h3 : (t.mark (mo i)).seen m = true
              · obtain rfl := mark_new h3 hn
                exact ⟨old, hb, fun k hk hs => P2.up _ (q2 k hk hs)⟩
              · obtain ⟨j, hj, hk⟩ := q3 m h2 h3
                exact ⟨j, hj, fun k hk1 hs => P2.up _ (hk k hk1 hs)⟩
            · obtain ⟨j, hj, hk⟩ := p3 m hm h2
              exact ⟨j, by rw [← hby]; exact hj, hk⟩
        · obtain ⟨p1, p2, p3⟩ := P2.yes hr
          refine ⟨fun s => by rw [p1 s, served_by hby], fun m hm => by rw [p2 m (P1.up m (mark_up hm)), hby], fun Ds Dm c => ?_⟩
          obtain ⟨z1, z2⟩ := p3 Ds Dm (c.of_by hby)
          exact ⟨z1, fun m hm => by rw [z2 m hm, hby]⟩
theorem seek_post {sh mo : Nat → Nat} {sm : List Nat} {M : Nat} (hmo : ∀ i, i ∈ sm → mo i < M) : ∀ (f shop : Nat) (t : St), Inv mo sm t → unseen M t < f → Post sh mo sm M shop sm t (seek sh mo sm f shop t).1 (seek sh mo sm f shop t).2
  | 0, _, _, _, h => absurd h (by omega)
  | f + 1, shop, t, hI, h => seekW_post hmo (fun s t hI h => seek_post hmo f s t hI h) sm t (fun i hi => hi) hI (by omega)
end MB
end Go.Proofs.Ytmgkeeefbfefgaa
end
section
namespace Go.Proofs.Ytmgkeeefbfefgaa
set_option linter.unusedSimpArgs false
set_option linter.unusedVariables false
set_option linter.defProp false
set_option linter.unusedSectionVars false
namespace MB
def mby (sh mo : Nat → Nat) (sm : List Nat) (M : Nat) : Nat → Nat → Option Nat
  | 0 => fun _ => none
  | k + 1 => (seek sh mo sm (M + 1) k ⟨mby sh mo sm M k, fun _ => false⟩).2.by_
def mst (sh mo : Nat → Nat) (sm : List Nat) (M k : Nat) : St := ⟨mby sh mo sm M k, fun _ => false⟩
structure MInv (sh mo : Nat → Nat) (sm : List Nat) (M k : Nat) (t : St) : Prop where
  inv : Inv mo sm t
  one : ∀ s, served sh M t s ≤ 1
  zero : ∀ s, k ≤ s → served sh M t s = 0
  dead : ∃ Ds Dm, Closed sh mo sm t Ds Dm ∧ ∀ s, s < k → served sh M t s = 1 ∨ Ds s
theorem unseen_all (M : Nat) (b : Nat → Option Nat) : unseen M ⟨b, fun _ => false⟩ ≤ M := cnt_le _ _
theorem match_inv {sh mo : Nat → Nat} {sm : List Nat} {M : Nat} (hmo : ∀ i, i ∈ sm → mo i < M) : ∀ k, MInv sh mo sm M k (mst sh mo sm M k)
  | 0 => ⟨⟨fun m i h => by cases h⟩, fun s => by
      have : served sh M (mst sh mo sm M 0) s = 0 := by
        unfold served
        induction M with
        | zero => rfl
        | succ n ih =>
          rw [cnt_succ]
          have e : cnt (isOf sh (mst sh mo sm (n + 1) 0) s) n = cnt (fun _ => false) n := cnt_congr fun i _ => rfl
          have e2 : ∀ n, cnt (fun _ => false) n = 0 := fun n => by induction n with
            | zero => rfl
            | succ n ih => rw [cnt_succ, ih]; rfl
          rw [e, e2]; rfl
      omega, fun s _ => by
        unfold served
        have e : cnt (isOf sh (mst sh mo sm M 0) s) M = cnt (fun _ => false) M := cnt_congr fun i _ => rfl
        have e2 : ∀ n, cnt (fun _ => false) n = 0 := fun n => by induction n with
          | zero => rfl
          | succ n ih => rw [cnt_succ, ih]; rfl
        rw [e, e2], fun _ => False, fun _ => False, ⟨fun m h => h.elim, fun i _ h => h.elim⟩, fun s hs => by omega⟩
  | k + 1 => by
    have I := match_inv (sh := sh) hmo k
    have P := seek_post (sh := sh) hmo (M + 1) k (mst sh mo sm M k) I.inv (by have := unseen_all M (mby sh mo sm M k); exact Nat.lt_succ_of_le this)
    obtain ⟨r, hr⟩ : ∃ r, (seek sh mo sm (M + 1) k (mst sh mo sm M k)).1 = r := ⟨_, rfl⟩
    obtain ⟨t', ht⟩ : ∃ r, (seek sh mo sm (M + 1) k (mst sh mo sm M k)).2 = r := ⟨_, rfl⟩
    have hm : mst sh mo sm M (k + 1) = ⟨t'.by_, fun _ => false⟩ := by rw [← ht]; rfl
    rw [hr, ht] at P
    obtain ⟨Ds, Dm, hc, hd⟩ := I.dead
    rw [hm]
    cases r with
    | true =>
      obtain ⟨p1, p2, p3⟩ := P.yes rfl
      obtain ⟨z1, z2⟩ := p3 Ds Dm hc
      have e : ∀ s, served sh M ⟨t'.by_, fun _ => false⟩ s = served sh M (mst sh mo sm M k) s + if s = k then 1 else 0 := fun s => (served_by (t := t') (t' := ⟨t'.by_, fun _ => false⟩) rfl s).trans (p1 s)
      refine ⟨Inv.of_by (t := t') rfl P.inv, fun s => ?_, fun s hs => ?_, Ds, Dm, ⟨fun m h => ?_, hc.s⟩, fun s hs => ?_⟩
      · rw [e]
        split
        · rename_i h; rw [I.zero s (by omega)]; omega
        · have := I.one s; omega
      · rw [e, if_neg (by omega), I.zero s (by omega)]
      · show ∃ i, t'.by_ m = some i ∧ _
        rw [z2 m h]
        exact hc.m m h
      · rw [e]
        by_cases h : s = k
        · rw [if_pos h, I.zero s (by omega)]; exact .inl rfl
        · rw [if_neg h]; exact hd s (by omega)
    | false =>
      obtain ⟨p1, p2, p3⟩ := P.no rfl
      have e : ∀ s, served sh M ⟨t'.by_, fun _ => false⟩ s = served sh M (mst sh mo sm M k) s := fun s => served_by p1 s
      refine ⟨Inv.of_by (t := t') rfl P.inv, fun s => by rw [e]; exact I.one s, fun s hs => by rw [e]; exact I.zero s (by omega), fun s => Ds s ∨ s = k ∨ ∃ m i, t'.seen m = true ∧ t'.by_ m = some i ∧ sh i = s, fun m => Dm m ∨ t'.seen m = true, ⟨fun m h => ?_, fun i hi h => ?_⟩, fun s hs => ?_⟩
      · show ∃ i, t'.by_ m = some i ∧ _
        rcases h with h | h
        · obtain ⟨i, h1, h2⟩ := hc.m m h
          exact ⟨i, by rw [p1]; exact h1, .inl h2⟩
        · obtain ⟨i, h1, h2⟩ := p3 m h (fun h => Bool.noConfusion h)
          exact ⟨i, by rw [p1]; exact h1, .inr (.inr ⟨m, i, h, by rw [p1]; exact h1, rfl⟩)⟩
      · rcases h with h | h | ⟨m, j, h1, h2, h3⟩
        · exact .inl (hc.s i hi h)
        · exact .inr (p2 i hi h)
        · obtain ⟨j', h4, h5⟩ := p3 m h1 (fun h => Bool.noConfusion h)
          rw [p1] at h2
          rw [h2] at h4
          cases h4
          exact .inr (h5 i hi h3.symm)
      · rw [e]
        by_cases h : s = k
        · exact .inr (.inr (.inl h))
        · rcases hd s (by omega) with h | h
          · exact .inl h
          · exact .inr (.inl h)
def free (sh mo : Nat → Nat) (L : List Nat) : Prop := L.Pairwise fun i k => sh i ≠ sh k ∧ mo i ≠ mo k
structure Mx (sh mo : Nat → Nat) (sm : List Nat) (n : Nat) : Prop where
  some_ : ∃ L, free sh mo L ∧ (∀ i, i ∈ L → i ∈ sm) ∧ L.length = n
  most : ∀ L, free sh mo L → (∀ i, i ∈ L → i ∈ sm) → L.length ≤ n
def size (M : Nat) (t : St) : Nat := cnt (fun m => (t.by_ m).isSome) M
theorem isOf_iff {sh : Nat → Nat} {t : St} {s m : Nat} : isOf sh t s m = true ↔ ∃ i, t.by_ m = some i ∧ sh i = s := by
  unfold isOf
  cases h : t.by_ m with
  | none => simp
  | some i => simp
theorem free_ne {sh mo : Nat → Nat} {L : List Nat} (h : free sh mo L) {i k : Nat} (hi : i ∈ L) (hk : k ∈ L) (hne : i ≠ k) : sh i ≠ sh k ∧ mo i ≠ mo k := by
  induction L with
  | nil => exact absurd hi List.not_mem_nil
  | cons x l ih =>
    obtain ⟨h1, h2⟩ := List.pairwise_cons.1 h
    rcases List.mem_cons.1 hi with e | hi2 <;> rcases List.mem_cons.1 hk with e2 | hk2
    · exact absurd (e.trans e2.symm) hne
    · subst e; exact h1 k hk2
    · subst e2; exact ⟨fun e => (h1 i hi2).1 e.symm, fun e => (h1 i hi2).2 e.symm⟩
    · exact ih h2 hi2 hk2
theorem nodup_map {f : Nat → Nat} {l : List Nat} (hn : l.Nodup) (h : ∀ i k, i ∈ l → k ∈ l → i ≠ k → f i ≠ f k) : (l.map f).Nodup := by
  rw [List.Nodup, List.pairwise_map]
  exact hn.imp_of_mem fun {i k} hi hk hne => h i k hi hk hne
theorem free_nodup {sh mo : Nat → Nat} {L : List Nat} (h : free sh mo L) : L.Nodup := h.imp fun {i k} hh e => hh.1 (by rw [e])
open Classical in
/-- A day's list is no longer than the wants by mould, if all shops have been served or are dead. -/
theorem match_most {sh mo : Nat → Nat} {sm : List Nat} {M S : Nat} {t : St} (hmo : ∀ i, i ∈ sm → mo i < M) (hsh : ∀ i, i ∈ sm → sh i < S) (I : MInv sh mo sm M S t) {L : List Nat} (hL : free sh mo L) (hs : ∀ i, i ∈ L → i ∈ sm) : L.length ≤ size M t := by
  obtain ⟨Ds, Dm, hc, hd⟩ := I.dead
  have h1 : ∀ s, ∃ m, s < S → ¬ Ds s → m < M ∧ isOf sh t s m = true := fun s => by
    by_cases h : s < S ∧ ¬ Ds s
    · obtain ⟨m, hm, h2⟩ := cnt_pos (P := isOf sh t s) (n := M) (by rcases hd s h.1 with h3 | h3
                                                                    · exact Nat.le_of_eq h3.symm
                                                                    · exact absurd h3 h.2)
      exact ⟨m, fun _ _ => ⟨hm, h2⟩⟩
    · exact ⟨0, fun h3 h4 => absurd ⟨h3, h4⟩ h⟩
  obtain ⟨g, hg⟩ := Classical.axiomOfChoice h1
  have hgD : ∀ s, s < S → ¬ Ds s → ¬ Dm (g s) := fun s h2 h3 h4 => by
    obtain ⟨i, h5, h6⟩ := isOf_iff.1 (hg s h2 h3).2
    obtain ⟨j, h7, h8⟩ := hc.m _ h4
    rw [h5] at h7
    cases h7
    exact h3 (h6 ▸ h8)
  have key := nodup_le (l := L.map fun i => if Ds (sh i) then mo i else g (sh i)) (m := (List.range M).filter fun m => (t.by_ m).isSome) (nodup_map (free_nodup hL) fun i k hi hk hne he => by
    have hf := free_ne hL hi hk hne
    have hi1 := hs i hi
    have hk1 := hs k hk
    by_cases d1 : Ds (sh i) <;> by_cases d2 : Ds (sh k)
    · rw [if_pos d1, if_pos d2] at he; exact hf.2 he
    · rw [if_pos d1, if_neg d2] at he
      exact hgD _ (hsh k hk1) d2 (he ▸ hc.s i hi1 d1)
    · rw [if_neg d1, if_pos d2] at he
      exact hgD _ (hsh i hi1) d1 (he ▸ hc.s k hk1 d2)
    · rw [if_neg d1, if_neg d2] at he
      obtain ⟨a, a1, a2⟩ := isOf_iff.1 (hg _ (hsh i hi1) d1).2
      obtain ⟨b, b1, b2⟩ := isOf_iff.1 (hg _ (hsh k hk1) d2).2
      rw [he, b1] at a1
      cases a1
      exact hf.1 (a2.symm.trans b2)) (fun x hx => by
    obtain ⟨i, hi, rfl⟩ := List.mem_map.1 hx
    have hi1 := hs i hi
    refine List.mem_filter.2 ?_
    by_cases d1 : Ds (sh i)
    · rw [if_pos d1]
      obtain ⟨j, h2, _⟩ := hc.m _ (hc.s i hi1 d1)
      exact ⟨List.mem_range.2 (hmo i hi1), by rw [h2]; rfl⟩
    · rw [if_neg d1]
      obtain ⟨h2, h3⟩ := hg _ (hsh i hi1) d1
      obtain ⟨a, a1, _⟩ := isOf_iff.1 h3
      exact ⟨List.mem_range.2 h2, by rw [a1]; rfl⟩)
  rw [List.length_map] at key
  exact key
def lst (t : St) : Nat → List Nat
  | 0 => []
  | m + 1 => lst t m ++ (match t.by_ m with | some i => [i] | none => [])
theorem lst_length (t : St) : ∀ m, (lst t m).length = size m t
  | 0 => rfl
  | m + 1 => by
    have h1 := lst_length t m
    unfold size at h1 ⊢
    rw [lst, List.length_append, h1, cnt_succ]
    cases t.by_ m <;> rfl
theorem lst_mem {t : St} {i : Nat} : ∀ {m : Nat}, i ∈ lst t m ↔ ∃ x, x < m ∧ t.by_ x = some i
  | 0 => by simp [lst]
  | m + 1 => by
    rw [lst, List.mem_append, lst_mem (m := m)]
    constructor
    · rintro (⟨x, h1, h2⟩ | h)
      · exact ⟨x, by omega, h2⟩
      · cases hb : t.by_ m with
        | none => rw [hb] at h; exact absurd h List.not_mem_nil
        | some j =>
          rw [hb] at h
          obtain rfl := List.mem_singleton.1 h
          exact ⟨m, by omega, hb⟩
    · rintro ⟨x, h1, h2⟩
      by_cases e : x = m
      · subst e; rw [h2]; exact .inr (List.mem_singleton.2 rfl)
      · exact .inl ⟨x, by omega, h2⟩
theorem lst_free {sh mo : Nat → Nat} {sm : List Nat} {M k : Nat} {t : St} (I : MInv sh mo sm M k t) : ∀ m, m ≤ M → free sh mo (lst t m)
  | 0, _ => List.Pairwise.nil
  | m + 1, h => by
    rw [lst]
    refine List.pairwise_append.2 ⟨lst_free I m (by omega), by cases t.by_ m <;> simp, fun i hi j hj => ?_⟩
    cases hb : t.by_ m with
    | none => rw [hb] at hj; exact absurd hj List.not_mem_nil
    | some q =>
      rw [hb] at hj
      obtain rfl := List.mem_singleton.1 hj
      obtain ⟨x, hx, h1⟩ := lst_mem.1 hi
      refine ⟨fun e => ?_, fun e => ?_⟩
      · have := cnt_one (P := isOf sh t (sh j)) (n := M) (i := x) (k := m) (I.one (sh j)) (by omega) (by omega) (isOf_iff.2 ⟨i, h1, e⟩) (isOf_iff.2 ⟨j, hb, rfl⟩)
        omega
      · have h2 := (I.inv.ok x i h1).2
        have h3 := (I.inv.ok m j hb).2
        omega
theorem match_mx {sh mo : Nat → Nat} {sm : List Nat} {M S : Nat} (hmo : ∀ i, i ∈ sm → mo i < M) (hsh : ∀ i, i ∈ sm → sh i < S) : Mx sh mo sm (size M (mst sh mo sm M S)) := by
  have I := match_inv (sh := sh) hmo S
  refine ⟨⟨lst (mst sh mo sm M S) M, lst_free I M (Nat.le_refl _), fun i hi => ?_, lst_length _ _⟩, fun L h1 h2 => match_most hmo hsh I h1 h2⟩
  obtain ⟨x, _, hx⟩ := lst_mem.1 hi
  exact (I.inv.ok x i hx).1
end MB
end Go.Proofs.Ytmgkeeefbfefgaa
end
section
namespace Go.Proofs.Ytmgkeeefbfefgaa
set_option linter.unusedSimpArgs false
set_option linter.unusedVariables false
set_option linter.defProp false
set_option linter.unusedSectionVars false
namespace MB
open Classical in
/-- A day's list has no more wants than a cover has numbers. -/
theorem cover_bound {sh mo : Nat → Nat} {L X Y : List Nat} (hL : free sh mo L) (h : ∀ i, i ∈ L → sh i ∈ X ∨ mo i ∈ Y) : L.length ≤ X.length + Y.length := by
  have key := nodup_le (l := L.map fun i => if sh i ∈ X then 2 * sh i else 2 * mo i + 1) (m := X.map (fun s => 2 * s) ++ Y.map (fun m => 2 * m + 1)) (nodup_map (free_nodup hL) fun i k hi hk hne he => by
    have hf := free_ne hL hi hk hne
    by_cases d1 : sh i ∈ X <;> by_cases d2 : sh k ∈ X
    · rw [if_pos d1, if_pos d2] at he; exact hf.1 (by omega)
    · rw [if_pos d1, if_neg d2] at he; omega
    · rw [if_neg d1, if_pos d2] at he; omega
    · rw [if_neg d1, if_neg d2] at he; exact hf.2 (by omega)) (fun x hx => by
    obtain ⟨i, hi, rfl⟩ := List.mem_map.1 hx
    by_cases d1 : sh i ∈ X
    · rw [if_pos d1]; exact List.mem_append_left _ (List.mem_map.2 ⟨_, d1, rfl⟩)
    · rw [if_neg d1]
      rcases h i hi with h1 | h1
      · exact absurd h1 d1
      · exact List.mem_append_right _ (List.mem_map.2 ⟨_, h1, rfl⟩))
  simpa using key
inductive RS (sh mo : Nat → Nat) (n M : Nat) (t : St) : Nat → Prop
  | base (s : Nat) : served sh M t s = 0 → RS sh mo n M t s
  | step (i w : Nat) : RS sh mo n M t (sh i) → i < n → t.by_ (mo i) = some w → RS sh mo n M t (sh w)
structure Alt (sh mo : Nat → Nat) (n M S : Nat) (t : St) (X Y : List Nat) : Prop where
  xn : X.Nodup
  yn : Y.Nodup
  xs : ∀ s, s ∈ X ↔ s < S ∧ RS sh mo n M t s
  ys : ∀ m, m ∈ Y ↔ ∃ i, i < n ∧ RS sh mo n M t (sh i) ∧ mo i = m
variable {sh mo : Nat → Nat} {n M S : Nat} {t : St} {X Y : List Nat}
theorem RS.dead {Ds Dm : Nat → Prop} (hc : Closed sh mo (List.range n) t Ds Dm) (hd : ∀ s, s < S → served sh M t s = 1 ∨ Ds s) (hsh : ∀ i, i < n → sh i < S) (I : Inv mo (List.range n) t) {s : Nat} (h : RS sh mo n M t s) (hs : s < S) : Ds s := by
  induction h with
  | base s h0 =>
    rcases hd s hs with h1 | h1
    · omega
    · exact h1
  | step i w _ hi hb ih =>
    obtain ⟨j, hj, h2⟩ := hc.m _ (hc.s i (List.mem_range.2 hi) (ih (hsh i hi)))
    rw [hb] at hj
    cases hj
    exact h2
theorem Alt.has (A : Alt sh mo n M S t X Y) (I : MInv sh mo (List.range n) M S t) (hsh : ∀ i, i < n → sh i < S) {m : Nat} (hm : m ∈ Y) : ∃ w, t.by_ m = some w ∧ w < n ∧ mo w = m ∧ sh w ∈ X := by
  obtain ⟨i, hi, h1, rfl⟩ := (A.ys m).1 hm
  obtain ⟨Ds, Dm, hc, hd⟩ := I.dead
  have h2 := h1.dead hc hd hsh I.inv (hsh i hi)
  obtain ⟨w, hw, _⟩ := hc.m _ (hc.s i (List.mem_range.2 hi) h2)
  obtain ⟨h3, h4⟩ := I.inv.ok _ _ hw
  have hwn := List.mem_range.1 h3
  exact ⟨w, hw, hwn, h4, (A.xs _).2 ⟨hsh w hwn, .step i w h1 hi hw⟩⟩
theorem served_pos {m w : Nat} (hm : m < M) (h : t.by_ m = some w) : 1 ≤ served sh M t (sh w) := by
  unfold served
  have h1 := cnt_set (P := isOf sh t (sh w)) (Q := fun x => if x = m then false else isOf sh t (sh w) x) hm (fun x hx => by rw [if_neg hx])
  simp only [if_true, Bool.false_eq_true, if_false, Nat.add_zero] at h1
  rw [if_pos (isOf_iff.2 ⟨w, h, rfl⟩)] at h1
  omega
theorem Alt.covers (A : Alt sh mo n M S t X Y) (hsh : ∀ i, i < n → sh i < S) {i : Nat} (hi : i < n) : sh i ∈ (List.range S).filter (fun s => !X.contains s) ∨ mo i ∈ Y := by
  by_cases h : sh i ∈ X
  · exact .inr ((A.ys _).2 ⟨i, hi, ((A.xs _).1 h).2, rfl⟩)
  · exact .inl (List.mem_filter.2 ⟨List.mem_range.2 (hsh i hi), by simpa using h⟩)
theorem Alt.size (A : Alt sh mo n M S t X Y) (I : MInv sh mo (List.range n) M S t) (hsh : ∀ i, i < n → sh i < S) (hmo : ∀ i, i < n → mo i < M) : ((List.range S).filter (fun s => !X.contains s)).length + Y.length = MB.size M t := by
  apply Nat.le_antisymm
  · have h1 : ∀ s, ∃ m, s < S → s ∉ X → m < M ∧ isOf sh t s m = true := fun s => by
      by_cases h : s < S ∧ s ∉ X
      · have h2 : 1 ≤ served sh M t s := Nat.one_le_iff_ne_zero.2 fun e => h.2 ((A.xs s).2 ⟨h.1, .base s e⟩)
        obtain ⟨m, h3, h4⟩ := cnt_pos h2
        exact ⟨m, fun _ _ => ⟨h3, h4⟩⟩
      · exact ⟨0, fun h3 h4 => absurd ⟨h3, h4⟩ h⟩
    obtain ⟨g, hg⟩ := Classical.axiomOfChoice h1
    have hX : ∀ s, s ∈ (List.range S).filter (fun s => !X.contains s) → s < S ∧ s ∉ X := fun s hs => by
      obtain ⟨h2, h3⟩ := List.mem_filter.1 hs
      exact ⟨List.mem_range.1 h2, by simpa using h3⟩
    have hnd : (((List.range S).filter (fun s => !X.contains s)).map g ++ Y).Nodup := by
      refine List.nodup_append.2 ⟨nodup_map (List.Pairwise.filter _ List.nodup_range) fun i k hi hk hne he => ?_, A.yn, fun a ha b hb e => ?_⟩
      · obtain ⟨i1, i2⟩ := hX i hi
        obtain ⟨k1, k2⟩ := hX k hk
        obtain ⟨a, a1, a2⟩ := isOf_iff.1 (hg i i1 i2).2
        obtain ⟨b, b1, b2⟩ := isOf_iff.1 (hg k k1 k2).2
        rw [he, b1] at a1
        cases a1
        exact hne (a2.symm.trans b2)
      · obtain ⟨s, hs, rfl⟩ := List.mem_map.1 ha
        obtain ⟨s1, s2⟩ := hX s hs
        obtain ⟨a, a1, a2⟩ := isOf_iff.1 (hg s s1 s2).2
        obtain ⟨w, w1, _, _, w2⟩ := A.has I hsh hb
        rw [← e, a1] at w1
        cases w1
        exact s2 (a2 ▸ w2)
    have key := nodup_le (m := (List.range M).filter fun m => (t.by_ m).isSome) hnd (fun m hm => by
      rcases List.mem_append.1 hm with h | h
      · obtain ⟨s, hs, rfl⟩ := List.mem_map.1 h
        obtain ⟨s1, s2⟩ := hX s hs
        obtain ⟨h3, h4⟩ := hg s s1 s2
        obtain ⟨a, a1, _⟩ := isOf_iff.1 h4
        exact List.mem_filter.2 ⟨List.mem_range.2 h3, by rw [a1]; rfl⟩
      · obtain ⟨w, w1, w2, w3, _⟩ := A.has I hsh h
        exact List.mem_filter.2 ⟨List.mem_range.2 (w3 ▸ hmo w w2), by rw [w1]; rfl⟩)
    rw [List.length_append, List.length_map] at key
    exact key
  · have h1 := match_mx (sh := sh) (mo := mo) (sm := List.range n) (M := M) (S := S) (fun i hi => hmo i (List.mem_range.1 hi)) (fun i hi => hsh i (List.mem_range.1 hi))
    have h2 := cover_bound (X := (List.range S).filter (fun s => !X.contains s)) (Y := Y) (lst_free I M (Nat.le_refl _)) (fun i hi => A.covers hsh (by
      obtain ⟨x, _, hx⟩ := lst_mem.1 hi
      exact List.mem_range.1 (I.inv.ok x i hx).1))
    rw [lst_length] at h2
    exact h2
end MB
end Go.Proofs.Ytmgkeeefbfefgaa
end
section
namespace Go.Proofs.Ytmgkeeefbfefgaa
set_option linter.unusedSimpArgs false
set_option linter.unusedVariables false
set_option linter.defProp false
set_option linter.unusedSectionVars false
namespace MB
def load (f : Nat → Nat) (n s : Nat) : Nat := cnt (fun i => f i == s) n
def wnt (sh : Nat → Nat) (n S : Nat) : List Nat := (List.range S).filter fun s => decide (0 < load sh n s)
variable {sh mo : Nat → Nat} {n M S : Nat} {t : St} {X Y : List Nat}
theorem load_pos {f : Nat → Nat} {i : Nat} (hi : i < n) : 0 < load f n (f i) := by
  induction n with
  | zero => omega
  | succ n ih =>
    unfold load
    rw [cnt_succ]
    by_cases e : i = n
    · subst e; simp
    · have := ih (by omega)
      unfold load at this
      omega
theorem mem_wnt {s : Nat} : s ∈ wnt sh n S ↔ s < S ∧ 0 < load sh n s := by
  rw [wnt, List.mem_filter, List.mem_range, decide_eq_true_eq]
theorem wnt_nodup : (wnt sh n S).Nodup := List.Pairwise.filter _ List.nodup_range
theorem served_load (I : Inv mo (List.range n) t) {s : Nat} (h : served sh M t s ≠ 0) : 0 < load sh n s := by
  obtain ⟨m, _, h1⟩ := cnt_pos (P := isOf sh t s) (n := M) (Nat.one_le_iff_ne_zero.2 h)
  obtain ⟨i, h2, rfl⟩ := isOf_iff.1 h1
  exact load_pos (List.mem_range.1 (I.ok m i h2).1)
theorem same_length {l k : List Nat} (hl : l.Nodup) (hk : k.Nodup) (h : ∀ x, x ∈ l ↔ x ∈ k) : l.length = k.length := Nat.le_antisymm (nodup_le hl fun x hx => (h x).1 hx) (nodup_le hk fun x hx => (h x).2 hx)
def outs (S : Nat) (X : List Nat) : List Nat := (List.range S).filter fun s => !X.contains s
theorem mem_outs {s : Nat} : s ∈ outs S X ↔ s < S ∧ s ∉ X := by
  rw [outs, List.mem_filter, List.mem_range]
  simp
theorem outs_nodup : (outs S X).Nodup := List.Pairwise.filter _ List.nodup_range
theorem Alt.wants (A : Alt sh mo n M S t X Y) (I : MInv sh mo (List.range n) M S t) : (X.filter fun s => decide (0 < load sh n s)).length + (outs S X).length = (wnt sh n S).length := by
  rw [← List.length_append]
  refine same_length (List.nodup_append.2 ⟨List.Pairwise.filter _ A.xn, outs_nodup, fun a ha b hb e => (mem_outs.1 hb).2 (e ▸ (List.mem_filter.1 ha).1)⟩) wnt_nodup fun s => ?_
  rw [List.mem_append, List.mem_filter, mem_outs, mem_wnt, decide_eq_true_eq]
  constructor
  · rintro (⟨h1, h2⟩ | ⟨h1, h2⟩)
    · exact ⟨((A.xs s).1 h1).1, h2⟩
    · exact ⟨h1, served_load I.inv fun e => h2 ((A.xs s).2 ⟨h1, .base s e⟩)⟩
  · rintro ⟨h1, h2⟩
    by_cases h : s ∈ X
    · exact .inl ⟨h, h2⟩
    · exact .inr ⟨h1, h⟩
def wtd (sh mo : Nat → Nat) (n M : Nat) (own : List Nat) : List Nat := (List.range M).filter fun m => (List.range n).any fun i => mo i == m && own.contains (sh i)
theorem mem_wtd {own : List Nat} {m : Nat} : m ∈ wtd sh mo n M own ↔ m < M ∧ ∃ i, i < n ∧ mo i = m ∧ sh i ∈ own := by
  rw [wtd, List.mem_filter, List.mem_range, List.any_eq_true]
  simp only [List.mem_range, Bool.and_eq_true, beq_iff_eq, List.contains_eq_mem, decide_eq_true_eq]
theorem wtd_nodup {own : List Nat} : (wtd sh mo n M own).Nodup := List.Pairwise.filter _ List.nodup_range
theorem Alt.wtd (A : Alt sh mo n M S t X Y) (hsh : ∀ i, i < n → sh i < S) (hmo : ∀ i, i < n → mo i < M) : (MB.wtd sh mo n M (X.filter fun s => decide (0 < load sh n s))).length = Y.length := by
  refine same_length wtd_nodup A.yn fun m => ?_
  rw [mem_wtd, A.ys]
  constructor
  · rintro ⟨_, i, h1, h2, h3⟩
    exact ⟨i, h1, ((A.xs _).1 (List.mem_filter.1 h3).1).2, h2⟩
  · rintro ⟨i, h1, h2, rfl⟩
    exact ⟨hmo i h1, i, h1, rfl, List.mem_filter.2 ⟨(A.xs _).2 ⟨hsh i h1, h2⟩, by rw [decide_eq_true_eq]; exact load_pos h1⟩⟩
theorem hall {L own : List Nat} (hL : free sh mo L) (hn : ∀ i, i ∈ L → i < n) (hsh : ∀ i, i < n → sh i < S) (hmo : ∀ i, i < n → mo i < M) (ho : own.Nodup) (hw : ∀ s, s ∈ own → s < S ∧ 0 < load sh n s) : L.length + own.length ≤ (wnt sh n S).length + (MB.wtd sh mo n M own).length := by
  have h1 := cover_bound (X := (wnt sh n S).filter fun s => !own.contains s) (Y := MB.wtd sh mo n M own) hL fun i hi => by
    by_cases h : sh i ∈ own
    · exact .inr (mem_wtd.2 ⟨hmo i (hn i hi), i, hn i hi, rfl, h⟩)
    · exact .inl (List.mem_filter.2 ⟨mem_wnt.2 ⟨hsh i (hn i hi), load_pos (hn i hi)⟩, by simpa using h⟩)
  have h2 := nodup_le (l := (wnt sh n S).filter (fun s => !own.contains s) ++ own) (m := wnt sh n S) (List.nodup_append.2 ⟨List.Pairwise.filter _ wnt_nodup, ho, fun a ha b hb e => by
    have := (List.mem_filter.1 ha).2
    simp only [List.contains_eq_mem, Bool.not_eq_true', decide_eq_false_iff_not] at this
    exact this (e ▸ hb)⟩) (fun s hs => by
    rcases List.mem_append.1 hs with h | h
    · exact (List.mem_filter.1 h).1
    · exact mem_wnt.2 (hw s h))
  rw [List.length_append] at h2
  omega
theorem Alt.none (A : Alt sh mo n M S t X Y) (I : MInv sh mo (List.range n) M S t) (hsh : ∀ i, i < n → sh i < S) (h : MB.size M t = (wnt sh n S).length) : X.filter (fun s => decide (0 < load sh n s)) = [] := by
  have key : ∀ s, s < S → 0 < load sh n s → served sh M t s ≠ 0 := fun s hs hl h0 => by
    have h1 := cover_bound (X := (wnt sh n S).erase s) (Y := []) (lst_free I M (Nat.le_refl _)) fun i hi => by
      obtain ⟨x, hx1, hx⟩ := lst_mem.1 hi
      have hn := List.mem_range.1 (I.inv.ok x i hx).1
      have hne : sh i ≠ s := fun e => by
        have := served_pos (sh := sh) hx1 hx
        rw [e] at this
        omega
      exact .inl ((List.mem_erase_of_ne hne).2 (mem_wnt.2 ⟨hsh i hn, load_pos hn⟩))
    have hm : s ∈ wnt sh n S := mem_wnt.2 ⟨hs, hl⟩
    rw [lst_length, List.length_erase_of_mem hm] at h1
    have := List.length_pos_of_mem hm
    simp only [List.length_nil] at h1
    omega
  have all : ∀ s, RS sh mo n M t s → s < S → served sh M t s = 0 := fun s hr => by
    induction hr with
    | base s h0 => exact fun _ => h0
    | step i w _ hi _ ih => exact fun _ => absurd (ih (hsh i hi)) (key _ (hsh i hi) (load_pos hi))
  rw [List.filter_eq_nil_iff]
  intro s hs hd
  obtain ⟨h1, h2⟩ := (A.xs s).1 hs
  exact key s h1 (by simpa using hd) (all s h2 h1)
end MB
end Go.Proofs.Ytmgkeeefbfefgaa
end
section
namespace Go.Proofs.Ytmgkeeefbfefgaa
set_option linter.unusedSimpArgs false
set_option linter.unusedVariables false
set_option linter.defProp false
set_option linter.unusedSectionVars false
namespace MB
variable {sh mo : Nat → Nat} {n : Nat}
def clash (sh mo : Nat → Nat) (i k : Nat) : Bool := sh i == sh k || mo i == mo k
theorem clash_no {i k : Nat} : clash sh mo i k = false ↔ sh i ≠ sh k ∧ mo i ≠ mo k := by
  unfold clash
  rw [Bool.or_eq_false_iff, beq_eq_false_iff_ne, beq_eq_false_iff_ne]
theorem clash_comm (i k : Nat) : clash sh mo i k = clash sh mo k i := by
  unfold clash
  rw [Bool.beq_comm (a := sh i), Bool.beq_comm (a := mo i)]
def rest (sh mo : Nat → Nat) (l : List Nat) (i : Nat) : List Nat := l.filter fun k => !(decide (k ≤ i) || clash sh mo i k)
theorem mem_rest {l : List Nat} {i k : Nat} : k ∈ rest sh mo l i ↔ k ∈ l ∧ i < k ∧ sh i ≠ sh k ∧ mo i ≠ mo k := by
  rw [rest, List.mem_filter, Bool.not_eq_true', Bool.or_eq_false_iff, clash_no, decide_eq_false_iff_not, Nat.not_le]
def pick (sh mo : Nat → Nat) (mxv : List Nat → Nat) : Nat → List Nat → List Nat
  | 0, _ => []
  | f + 1, l => match l.find? fun i => 1 + mxv (rest sh mo l i) == mxv l with
    | none => []
    | some i => i :: pick sh mo mxv f (rest sh mo l i)
theorem least : ∀ {l : List Nat}, l ≠ [] → ∃ i, i ∈ l ∧ ∀ k, k ∈ l → i ≤ k
  | [], h => absurd rfl h
  | x :: l, _ => by
    by_cases hl : l = []
    · subst hl; exact ⟨x, List.mem_cons_self, fun k hk => by rw [List.mem_singleton] at hk; omega⟩
    · obtain ⟨i, hi, h⟩ := least hl
      by_cases hx : x ≤ i
      · exact ⟨x, List.mem_cons_self, fun k hk => by
          rcases List.mem_cons.1 hk with rfl | hk
          · exact Nat.le_refl _
          · exact Nat.le_trans hx (h k hk)⟩
      · exact ⟨i, List.mem_cons_of_mem _ hi, fun k hk => by
          rcases List.mem_cons.1 hk with rfl | hk
          · omega
          · exact h k hk⟩
theorem free_erase {L : List Nat} (h : free sh mo L) (i : Nat) : free sh mo (L.erase i) := List.Pairwise.sublist List.erase_sublist h
theorem free_cons {L : List Nat} {i : Nat} (h : free sh mo L) (hi : ∀ k, k ∈ L → sh i ≠ sh k ∧ mo i ≠ mo k) : free sh mo (i :: L) := List.pairwise_cons.2 ⟨hi, h⟩
section
variable {mxv : List Nat → Nat} (hmx : ∀ l : List Nat, (∀ i, i ∈ l → i < n) → Mx sh mo l (mxv l))
include hmx
theorem mx_le {l k : List Nat} (hk : ∀ i, i ∈ k → i < n) (h : ∀ i, i ∈ l → i ∈ k) : mxv l ≤ mxv k := by
  obtain ⟨L, a, b, c⟩ := (hmx l fun i hi => hk i (h i hi)).some_
  rw [← c]
  exact (hmx k hk).most L a fun i hi => h i (b i hi)
theorem rest_le {l : List Nat} (hl : ∀ i, i ∈ l → i < n) {i : Nat} (hi : i ∈ l) : 1 + mxv (rest sh mo l i) ≤ mxv l := by
  obtain ⟨L, a, b, c⟩ := (hmx (rest sh mo l i) fun k hk => hl k (mem_rest.1 hk).1).some_
  have := (hmx l hl).most (i :: L) (free_cons a fun k hk => (mem_rest.1 (b k hk)).2.2) fun k hk => by
    rcases List.mem_cons.1 hk with rfl | hk
    · exact hi
    · exact (mem_rest.1 (b k hk)).1
  rw [List.length_cons] at this
  omega
theorem best_with {l L : List Nat} (hl : ∀ i, i ∈ l → i < n) (h1 : free sh mo L) (h2 : ∀ i, i ∈ L → i ∈ l) {i : Nat} (hi : i ∈ L) (hm : ∀ k, k ∈ L → i ≤ k) : L.length ≤ 1 + mxv (rest sh mo l i) := by
  have h3 := (hmx (rest sh mo l i) fun k hk => hl k (mem_rest.1 hk).1).most (L.erase i) (free_erase h1 i) fun k hk => by
    have hk2 := List.mem_of_mem_erase hk
    have hne : i ≠ k := fun e => by
      subst e
      exact (List.Nodup.not_mem_erase (free_nodup h1)) hk
    have := hm k hk2
    exact mem_rest.2 ⟨h2 k hk2, by omega, free_ne h1 hi hk2 hne⟩
  rw [List.length_erase_of_mem hi] at h3
  omega
theorem best_first {l : List Nat} (hl : ∀ i, i ∈ l → i < n) (h : 0 < mxv l) : ∃ i, i ∈ l ∧ 1 + mxv (rest sh mo l i) = mxv l := by
  obtain ⟨L, h1, h2, h3⟩ := (hmx l hl).some_
  obtain ⟨i, hi, hm⟩ := least (l := L) (fun e => by rw [e] at h3; simp at h3; omega)
  have h4 := best_with hmx hl h1 h2 hi hm
  have h5 := rest_le hmx hl (h2 i hi)
  exact ⟨i, h2 i hi, by omega⟩
theorem mx_none {l : List Nat} (hl : ∀ i, i ∈ l → i < n) (h : mxv l = 0) : l = [] := by
  cases l with
  | nil => rfl
  | cons x l =>
    have := rest_le hmx hl (List.mem_cons_self (a := x) (l := l))
    omega
theorem pick_length : ∀ (f : Nat) (l : List Nat), (∀ i, i ∈ l → i < n) → mxv l ≤ f → (pick sh mo mxv f l).length = mxv l
  | 0, l, _, h => by rw [pick]; simp; omega
  | f + 1, l, hl, h => by
    rw [pick]
    cases hf : l.find? fun i => 1 + mxv (rest sh mo l i) == mxv l with
    | none =>
      rw [List.find?_eq_none] at hf
      show ([] : List Nat).length = _
      apply Classical.byContradiction
      intro h0
      obtain ⟨i, hi, he⟩ := best_first hmx hl (Nat.pos_of_ne_zero fun e => h0 e.symm)
      exact hf i hi (by simp [he])
    | some i =>
      have h1 := List.find?_some hf
      simp only [beq_iff_eq] at h1
      show (i :: pick sh mo mxv f (rest sh mo l i)).length = _
      rw [List.length_cons, pick_length f _ (fun k hk => hl k (mem_rest.1 hk).1) (by omega)]
      omega
theorem mx_skip {l : List Nat} {i : Nat} (hl : ∀ k, k ∈ i :: l → k < n) (hm : ∀ k, k ∈ l → i < k) (h : 1 + mxv (rest sh mo (i :: l) i) ≠ mxv (i :: l)) : mxv (i :: l) = mxv l := by
  have h1 := mx_le hmx (l := l) (k := i :: l) hl fun k hk => List.mem_cons_of_mem _ hk
  obtain ⟨L, a, b, c⟩ := (hmx (i :: l) hl).some_
  have h2 : i ∉ L := fun hi => by
    have h3 := best_with hmx hl a b hi fun k hk => by
      rcases List.mem_cons.1 (b k hk) with e | hk2
      · omega
      · have := hm k hk2; omega
    have h4 := rest_le hmx hl (List.mem_cons_self (a := i) (l := l))
    omega
  have h3 := (hmx l fun k hk => hl k (List.mem_cons_of_mem _ hk)).most L a fun k hk => by
    rcases List.mem_cons.1 (b k hk) with e | hk2
    · exact absurd (e ▸ hk) h2
    · exact hk2
  omega
theorem pick_skip {l : List Nat} {i : Nat} (f : Nat) (hl : ∀ k, k ∈ i :: l → k < n) (hm : ∀ k, k ∈ l → i < k) (h : 1 + mxv (rest sh mo (i :: l) i) ≠ mxv (i :: l)) : pick sh mo mxv f (i :: l) = pick sh mo mxv f l := by
  cases f with
  | zero => rfl
  | succ f =>
    have e := mx_skip hmx hl hm h
    have hr : ∀ k, k ∈ l → rest sh mo (i :: l) k = rest sh mo l k := fun k hk => by
      unfold rest
      rw [List.filter_cons_of_neg]
      have := hm k hk
      simp only [Bool.not_eq_true', Bool.or_eq_false_iff, decide_eq_false_iff_not]
      omega
    rw [pick, pick, List.find?_cons_of_neg (by simpa using h)]
    have hf : l.find? (fun k => 1 + mxv (rest sh mo (i :: l) k) == mxv (i :: l)) = l.find? (fun k => 1 + mxv (rest sh mo l k) == mxv l) := by
      rw [e]
      generalize mxv l = N
      clear e h hl
      have : ∀ l' : List Nat, (∀ k, k ∈ l' → k ∈ l) → l'.find? (fun k => 1 + mxv (rest sh mo (i :: l) k) == N) = l'.find? (fun k => 1 + mxv (rest sh mo l k) == N) := fun l' => by
        induction l' with
        | nil => intro _; rfl
        | cons x l' ih =>
          intro hs
          rw [List.find?_cons, List.find?_cons, hr x (hs x List.mem_cons_self), ih fun k hk => hs k (List.mem_cons_of_mem _ hk)]
      exact this l fun k hk => hk
    rw [hf]
    cases hq : l.find? (fun k => 1 + mxv (rest sh mo l k) == mxv l) with
    | none => rfl
    | some k =>
      show k :: _ = k :: _
      rw [hr k (List.mem_of_find?_eq_some hq)]
theorem pick_take {l : List Nat} {i : Nat} (f : Nat) (h : 1 + mxv (rest sh mo (i :: l) i) = mxv (i :: l)) : pick sh mo mxv (f + 1) (i :: l) = i :: pick sh mo mxv f (rest sh mo (i :: l) i) := by
  rw [pick, List.find?_cons_of_pos (by simp [h])]
end
end MB
end Go.Proofs.Ytmgkeeefbfefgaa
end
section
namespace Go.Proofs.Ytmgkeeefbfefgaa
set_option linter.unusedSimpArgs false
set_option linter.unusedVariables false
set_option linter.defProp false
set_option linter.unusedSectionVars false
namespace MB
variable {sh mo : Nat → Nat} {n : Nat}
def pk (sh mo : Nat → Nat) (mxv : List Nat → Nat) (l : List Nat) : List Nat := pick sh mo mxv (mxv l) l
def lstep (sh mo : Nat → Nat) (mxv : List Nat → Nat) (most : Nat) (st : List Nat × List Nat) (i : Nat) : List Nat × List Nat :=
  if st.2.contains i && st.1.length + 1 + mxv (rest sh mo st.2 i) == most then (st.1 ++ [i], rest sh mo st.2 i) else st
def lgo (sh mo : Nat → Nat) (mxv : List Nat → Nat) (n : Nat) : Nat → List Nat × List Nat
  | 0 => ([], List.range n)
  | i + 1 => lstep sh mo mxv (mxv (List.range n)) (lgo sh mo mxv n i) i
def from_ (l : List Nat) (i : Nat) : List Nat := l.filter fun k => decide (i ≤ k)
theorem from_not {l : List Nat} {i : Nat} (h : i ∉ l) : from_ l i = from_ l (i + 1) := by
  unfold from_
  refine List.filter_congr fun k hk => ?_
  have : k ≠ i := fun e => h (e ▸ hk)
  by_cases h1 : i ≤ k
  · rw [decide_eq_true h1, decide_eq_true (by omega : i + 1 ≤ k)]
  · rw [decide_eq_false h1, decide_eq_false (by omega : ¬ i + 1 ≤ k)]
theorem from_cons : ∀ {l : List Nat} {i : Nat}, l.Pairwise (· < ·) → i ∈ l → from_ l i = i :: from_ l (i + 1)
  | [], _, _, h => absurd h List.not_mem_nil
  | x :: l, i, hp, h => by
    obtain ⟨h1, h2⟩ := List.pairwise_cons.1 hp
    unfold from_
    by_cases e : i = x
    · subst e
      rw [List.filter_cons_of_pos (by simp), List.filter_cons_of_neg (by simp)]
      have : ∀ k, k ∈ l → decide (i ≤ k) = decide (i + 1 ≤ k) := fun k hk => by
        have := h1 k hk
        rw [decide_eq_true (by omega : i ≤ k), decide_eq_true (by omega : i + 1 ≤ k)]
      rw [List.filter_congr this]
    · rcases List.mem_cons.1 h with h3 | h3
      · exact absurd h3 e
      have h4 := h1 i h3
      rw [List.filter_cons_of_neg (by simp; omega), List.filter_cons_of_neg (by simp; omega)]
      exact from_cons h2 h3
theorem rest_from (l : List Nat) (i : Nat) : rest sh mo (from_ l i) i = rest sh mo l i := by
  unfold rest from_
  rw [List.filter_filter]
  refine List.filter_congr fun k _ => ?_
  by_cases h : k ≤ i
  · simp [h]
  · simp [h, (by omega : i ≤ k)]
theorem sorted_rest {l : List Nat} {i : Nat} (h : l.Pairwise (· < ·)) : (rest sh mo l i).Pairwise (· < ·) := List.Pairwise.filter _ h
theorem from_rest (l : List Nat) (i : Nat) : from_ (rest sh mo l i) (i + 1) = rest sh mo l i := by
  unfold from_
  rw [List.filter_eq_self]
  intro k hk
  have := (mem_rest.1 hk).2.1
  exact decide_eq_true (by omega)
section
variable {mxv : List Nat → Nat} (hmx : ∀ l : List Nat, (∀ i, i ∈ l → i < n) → Mx sh mo l (mxv l))
include hmx
theorem pk_take {l : List Nat} {i : Nat} (h : 1 + mxv (rest sh mo (i :: l) i) = mxv (i :: l)) : pk sh mo mxv (i :: l) = i :: pk sh mo mxv (rest sh mo (i :: l) i) := by
  unfold pk
  rw [show mxv (i :: l) = mxv (rest sh mo (i :: l) i) + 1 by omega]
  exact pick_take hmx _ h
theorem pk_skip {l : List Nat} {i : Nat} (hl : ∀ k, k ∈ i :: l → k < n) (hm : ∀ k, k ∈ l → i < k) (h : 1 + mxv (rest sh mo (i :: l) i) ≠ mxv (i :: l)) : pk sh mo mxv (i :: l) = pk sh mo mxv l := by
  unfold pk
  rw [mx_skip hmx hl hm h]
  exact pick_skip hmx _ hl hm h
theorem lgo_inv : ∀ i, i ≤ n → (∀ k, k ∈ (lgo sh mo mxv n i).2 → k < n) ∧ (lgo sh mo mxv n i).2.Pairwise (· < ·) ∧ (lgo sh mo mxv n i).1.length + mxv (from_ (lgo sh mo mxv n i).2 i) = mxv (List.range n) ∧ (lgo sh mo mxv n i).1 ++ pk sh mo mxv (from_ (lgo sh mo mxv n i).2 i) = pk sh mo mxv (List.range n)
  | 0, _ => by
    have e : from_ (List.range n) 0 = List.range n := by unfold from_; rw [List.filter_eq_self]; intro k _; simp
    refine ⟨fun k hk => List.mem_range.1 hk, List.pairwise_lt_range, ?_, ?_⟩
    · show ([] : List Nat).length + mxv (from_ (List.range n) 0) = _
      rw [e]; simp
    · show [] ++ pk sh mo mxv (from_ (List.range n) 0) = _
      rw [e]; rfl
  | i + 1, hi => by
    obtain ⟨h1, h2, h3, h4⟩ := lgo_inv i (by omega)
    rw [lgo]
    generalize lgo sh mo mxv n i = st at h1 h2 h3 h4
    obtain ⟨out, left⟩ := st
    simp only at h1 h2 h3 h4
    by_cases hm : i ∈ left
    · have hc := from_cons h2 hm
      have hr : rest sh mo (i :: from_ left (i + 1)) i = rest sh mo left i := by rw [← hc, rest_from]
      have hl : ∀ k, k ∈ i :: from_ left (i + 1) → k < n := fun k hk => by
        rw [← hc] at hk
        exact h1 k (List.mem_filter.1 hk).1
      have hgt : ∀ k, k ∈ from_ left (i + 1) → i < k := fun k hk => by
        have := of_decide_eq_true (List.mem_filter.1 hk).2
        omega
      rw [hc] at h3 h4
      by_cases hs : 1 + mxv (rest sh mo left i) = mxv (i :: from_ left (i + 1))
      · have e : lstep sh mo mxv (mxv (List.range n)) (out, left) i = (out ++ [i], rest sh mo left i) := by
          unfold lstep
          rw [if_pos]
          simp only [Bool.and_eq_true, beq_iff_eq]
          exact ⟨by simpa using hm, by omega⟩
        rw [e]
        refine ⟨fun k hk => h1 k (mem_rest.1 hk).1, sorted_rest h2, ?_, ?_⟩
        · show (out ++ [i]).length + mxv (from_ (rest sh mo left i) (i + 1)) = _
          rw [from_rest, List.length_append]
          simp only [List.length_cons, List.length_nil]
          omega
        · show (out ++ [i]) ++ pk sh mo mxv (from_ (rest sh mo left i) (i + 1)) = _
          rw [from_rest, ← h4, pk_take hmx (by rw [hr]; exact hs), hr, List.append_assoc]
          rfl
      · have e : lstep sh mo mxv (mxv (List.range n)) (out, left) i = (out, left) := by
          unfold lstep
          rw [if_neg]
          simp only [Bool.and_eq_true, beq_iff_eq]
          rintro ⟨_, h5⟩
          omega
        rw [e]
        have h6 := mx_skip hmx hl hgt (by rw [hr]; exact hs)
        exact ⟨h1, h2, by rw [h6] at h3; exact h3, by rw [pk_skip hmx hl hgt (by rw [hr]; exact hs)] at h4; exact h4⟩
    · have e : lstep sh mo mxv (mxv (List.range n)) (out, left) i = (out, left) := by
        unfold lstep
        rw [if_neg]
        simp only [Bool.and_eq_true, beq_iff_eq]
        rintro ⟨h5, _⟩
        exact hm (by simpa using h5)
      rw [e]
      rw [from_not hm] at h3 h4
      exact ⟨h1, h2, h3, h4⟩
theorem pk_length {l : List Nat} (hl : ∀ i, i ∈ l → i < n) : (pk sh mo mxv l).length = mxv l := pick_length hmx _ l hl (Nat.le_refl _)
theorem lgo_pk : (lgo sh mo mxv n n).1 = pk sh mo mxv (List.range n) := by
  obtain ⟨h1, _, h3, h4⟩ := lgo_inv hmx n (Nat.le_refl _)
  have e : from_ (lgo sh mo mxv n n).2 n = [] := by
    unfold from_
    rw [List.filter_eq_nil_iff]
    intro k hk
    have := h1 k hk
    simp; omega
  rw [e] at h4
  have h5 := pk_length hmx (l := []) (fun i hi => absurd hi List.not_mem_nil)
  have h6 : mxv [] = 0 := by
    obtain ⟨L, _, b, c⟩ := (hmx [] fun i hi => absurd hi List.not_mem_nil).some_
    cases L with
    | nil => simpa using c.symm
    | cons x L => exact absurd (b x List.mem_cons_self) List.not_mem_nil
  rw [h6] at h5
  rw [List.eq_nil_of_length_eq_zero h5, List.append_nil] at h4
  exact h4
end
end MB
end Go.Proofs.Ytmgkeeefbfefgaa
end
