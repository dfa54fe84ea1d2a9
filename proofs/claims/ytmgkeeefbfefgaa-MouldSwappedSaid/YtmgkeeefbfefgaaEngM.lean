/- The engine: slices of values of more cells than one; maps whose keys are told apart by their values. No condition. -/
import Derived.Test.YtmgkeeefbfefgaaEngA
set_option linter.unusedVariables false
set_option linter.unusedSimpArgs false
namespace Go.Eng
open Go
section vrows
variable {P : Program} {h0 : Nat} {h : Heap} {er : Env} {ty : TypeId}
/-- A slice of elements of so many cells, in a block of its own that is none of the first so many. -/
structure OwnV (h0 : Nat) (h : Heap) (el : TypeId) (s : Nat) (a : Option Addr) (len cap : Nat) (vs : List Value) : Prop where
  ln : vs.length = len * s
  ok : (a = none ∧ len = 0 ∧ cap = 0) ∨ ∃ g cur, a = some ⟨g, 0, none⟩ ∧ h0 ≤ g ∧ h[g]? = some (.cells cur el (0, 0)) ∧ cap * s ≤ cur.size ∧ len ≤ cap ∧ cur.toList.take (len * s) = vs
theorem OwnV.nil (h0 : Nat) (h : Heap) (el : TypeId) (s : Nat) : OwnV h0 h el s none 0 0 [] := ⟨by simp, .inl ⟨rfl, rfl, rfl⟩⟩
theorem OwnV.row {el : TypeId} {s : Nat} {a : Option Addr} {len cap : Nat} {vs : List Value} (O : OwnV h0 h el s a len cap vs) : Row h a vs := by
  have hl := O.ln
  rcases O.ok with ⟨rfl, h1, _⟩ | ⟨g, cur, rfl, h1, h2, h3, h4, h5⟩
  · left
    rw [h1, Nat.zero_mul] at hl
    exact List.length_eq_zero_iff.1 hl
  · right
    have : len * s ≤ cap * s := Nat.mul_le_mul_right _ h4
    exact ⟨g, 0, cur, el, (0, 0), rfl, h2, by omega, by rw [List.drop_zero, hl]; exact h5⟩
theorem OwnV.cap {el : TypeId} {s : Nat} {a : Option Addr} {len cap : Nat} {vs : List Value} (O : OwnV h0 h el s a len cap vs) : len ≤ cap := by
  rcases O.ok with ⟨_, h1, h2⟩ | ⟨g, cur, _, _, _, _, h4, _⟩ <;> omega
theorem OwnV.keep {el : TypeId} {s : Nat} {a : Option Addr} {len cap : Nat} {vs : List Value} (O : OwnV h0 h el s a len cap vs) {h' : Heap} (hk : ∀ p, a = some p → h'[p.block]? = h[p.block]?) : OwnV h0 h' el s a len cap vs := by
  refine ⟨O.ln, ?_⟩
  rcases O.ok with h1 | ⟨g, cur, rfl, h1, h2, h3⟩
  · exact .inl h1
  · exact .inr ⟨g, cur, rfl, h1, (hk _ rfl).trans h2, h3⟩
theorem OwnV.lt {el : TypeId} {s : Nat} {a : Option Addr} {len cap : Nat} {vs : List Value} (O : OwnV h0 h el s a len cap vs) {p : Addr} (hp : a = some p) : p.block < h.size ∧ h0 ≤ p.block := by
  rcases O.ok with ⟨h1, _⟩ | ⟨g, cur, h1, h2, h3, h4⟩
  · rw [h1] at hp; cases hp
  · rw [h1] at hp; cases hp; exact ⟨lt_of_get h3, h2⟩
theorem OwnV.ext {el : TypeId} {s : Nat} {a : Option Addr} {len cap : Nat} {vs : List Value} (O : OwnV h0 h el s a len cap vs) {h' : Heap} (x : Ext h h') : OwnV h0 h' el s a len cap vs := O.keep fun p hp => x.old _ (O.lt hp).1
theorem OwnV.upd {el : TypeId} {s : Nat} {a : Option Addr} {len cap b : Nat} {vs : List Value} {h' : Heap} (O : OwnV h0 h el s a len cap vs) (u : Upd h h' b) (hb : b < h0) : OwnV h0 h' el s a len cap vs :=
  O.keep fun p hp => u.old _ (by have := (O.lt hp).2; omega)
theorem OwnV.mono {el : TypeId} {s : Nat} {a : Option Addr} {len cap m' : Nat} {vs : List Value} (O : OwnV h0 h el s a len cap vs) (hm : m' ≤ h0) : OwnV m' h el s a len cap vs := by
  refine ⟨O.ln, ?_⟩
  rcases O.ok with h1 | ⟨g, cur, h1, h2, h3⟩
  · exact .inl h1
  · exact .inr ⟨g, cur, h1, by omega, h3⟩
theorem App.updV {h h' : Heap} {a a' : Option Addr} {el : TypeId} {s len cap : Nat} {vs : List Value} {m c : Nat} {o : Obj} (A : App h h' a a') (O : OwnV m h el s a len cap vs) (hc : h[c]? = some o) (hm : c < m) : h'[c]? = some o :=
  (A.old c (lt_of_get hc) fun p hp => by have := (O.lt hp).2; omega).trans hc
theorem App.extV {h h' h1 : Heap} {a a' : Option Addr} {el : TypeId} {s len cap : Nat} {vs : List Value} {m : Nat} (A : App h h' a a') (O : OwnV m h el s a len cap vs) (x : Ext h1 h) (hm : h1.size ≤ m) : Ext h1 h' :=
  ⟨Nat.le_trans x.size A.size, fun c hc => (A.old c (Nat.lt_of_lt_of_le hc x.size) fun p hp => by have := (O.lt hp).2; omega).trans (x.old c hc)⟩
theorem firstV {w : World} {b : Option Addr} {m c k s : Nat} {vs : List Value} (H : Row w.heap b vs) (hl : vs.length = m * s) (hk : k ≤ m) : (Builtin.firstCells s k (.slice b m c)).run P w = .ok (vs.take (k * s)).toArray w := by
  have hks : k * s ≤ m * s := Nat.mul_le_mul_right _ hk
  cases b with
  | none =>
    rcases H with h1 | ⟨g, off, cur, ct, fr, h1, _⟩
    · simp [Builtin.firstCells, h1]
    · cases h1
  | some a =>
    rcases H with h1 | ⟨g, off, cur, ct, fr, h1, h2, h3, h4⟩
    · subst h1
      have h0 : k * s = 0 := by simp at hl; omega
      have := run_firstCells_some (P := P) w s k a m c [] (by simp [h0]) (by simp)
      simpa using this
    · cases h1
      refine run_firstCells_some w s k ⟨g, off, none⟩ m c _ (by rw [List.length_take]; omega) fun j u hu => ?_
      rw [← h4, List.getElem?_take] at hu
      split at hu
      · rw [List.getElem?_take] at hu
        split at hu
        · rw [List.getElem?_drop] at hu
          exact Go.Run.cell_row h2 (by simpa using hu)
        · cases hu
      · cases hu
theorem row_src {ats : Array TypeId} {t2 e2 : TypeId} {s : Nat} (h1 : ats[1]? = some t2) (hu : P.underlying t2 = some (.slice e2)) {b : Option Addr} {m c : Nat} {vs : List Value} (H : Row h b vs) (hl : vs.length = m * s) : Go.Run.Src P ats h s m (.slice b m c) vs := by
  refine ⟨⟨t2, _, h1, hu, .inl ⟨e2, rfl⟩⟩, fun w _ => by simp [Builtin.lenOf], fun w hw => ?_, fun _ n hn w hw => ?_⟩
  · subst hw
    have := firstV (P := P) (c := c) H hl (Nat.le_refl m)
    rwa [List.take_of_length_le (by omega)] at this
  · subst hw
    exact firstV (P := P) (c := c) H hl hn
theorem zeroCells_size (z : Array Value) (n : Nat) : (Builtin.zeroCells z n).size = n * z.size := by simp [Builtin.zeroCells]
/-- APPEND, to a slice of elements of so many cells. -/
theorem append_vals {t t2 el e2 : TypeId} {i : TypeInfo} {z : Value} {s : Nat} (hu : P.underlying t = some (.slice el)) (hu2 : P.underlying t2 = some (.slice e2)) (hi : P.info? el = some i) (hsz : i.size = s) (hz : i.zero = some z) (hzs : z.cells.size = s)
    {x y : Operand} {a b : Option Addr} {len cap m c : Nat} {xs ys : List Value} {K : Value → Heap → Prop} (hx : ev er x = .slice a len cap) (hy : ev er y = .slice b m c) (O : OwnV h0 h el s a len cap xs) (h0h : h0 ≤ h.size) (I : Row h b ys) (hyl : ys.length = m * s) (h1 : ∀ u ∈ ys, u.oneCell' = true) (hb : len + m ≤ 1000000) (hby : (len + m) * i.bytes ≤ 1000000)
    (H : ∀ a' cap' h', OwnV h0 h' el s a' (len + m) cap' (xs ++ ys) → App h h' a a' → K (.slice a' (len + m) cap') h') : opSem P (.call ⟨.builtin .append, #[x, y], #[t, t2]⟩) ty er h K := by
  unfold opSem
  refine And.intro rfl fun w hw => ?_
  subst hw
  have hxl := O.ln
  have hlen : (xs ++ ys).length = (len + m) * s := by rw [List.length_append, O.ln, hyl, Nat.add_mul]
  have hs := row_src (P := P) (ats := #[t, t2]) (c := c) rfl hu2 I hyl
  have hargs : #[x, y].map (ev er) = #[.slice a len cap, .slice b m c] := by simp [hx, hy]
  have key : ∀ v w', (Builtin.append_ #[t, t2] ty #[.slice a len cap, .slice b m c]).run P w = .ok v w' → Rest w w' → K v w'.heap →
      semPost P w K ((execOp (ev er) { dst := none, op := .call ⟨.builtin .append, #[x, y], #[t, t2]⟩, type := ty, pos := "", after := #[], guard := none }).run P w) := by
    intro v w' h1 h2 h3
    have : (execOp (ev er) { dst := none, op := .call ⟨.builtin .append, #[x, y], #[t, t2]⟩, type := ty, pos := "", after := #[], guard := none }).run P w = .ok (.value v) w' := by
      simp only [execOp, resolve, invoke, builtin, Sem.run_bind, Sem.run_pure, Result.andThen_ok, hargs, h1]
    rw [this]
    exact ⟨h3, h2⟩
  have grow : cap < len + m → semPost P w K ((execOp (ev er) { dst := none, op := .call ⟨.builtin .append, #[x, y], #[t, t2]⟩, type := ty, pos := "", after := #[], guard := none }).run P w) := by
    intro hgr
    have g1 := Go.Run.ap_grow (P := P) (ty := ty) (ats := #[t, t2]) (z := z) (sLen := len) (sCap := cap) (b := a) (olds := xs) rfl hu hi hz w (by rw [hsz]; exact hs)
      (fun w' hw' => by
        have hI := O.row
        rw [← hw'] at hI
        have := firstV (P := P) (c := cap) hI O.ln (Nat.le_refl len)
        rw [List.take_of_length_le (by omega)] at this
        rw [hsz]
        exact this) hgr (by omega) (by omega)
    have hge := grownCap_ge w (len + m) cap el
    refine key _ _ g1 ⟨rfl, rfl, rfl⟩ (H _ _ _ ⟨hlen, .inr ⟨w.heap.size, _, rfl, h0h, push_new, ?_, hge, ?_⟩⟩ ⟨by simp, fun c hc _ => ?_, fun p hp => ?_⟩)
    · have e1 : (len + m) * s + (grownCap w (len + m) cap el - (len + m)) * s = grownCap w (len + m) cap el * s := by rw [← Nat.add_mul]; congr 1; omega
      simp only [List.size_toArray, List.length_append, Array.length_toList, zeroCells_size, hzs, hxl, hyl, Nat.add_mul] at e1 ⊢
      omega
    · rw [List.toList_toArray, List.take_append_of_le_length (by omega), List.take_of_length_le (by omega)]
    · show (w.heap.push _)[c]? = _
      rw [push_get, if_neg (by omega)]
    · cases hp
      exact .inr (Nat.le_refl _)
  rcases O.ok with ⟨rfl, rfl, rfl⟩ | ⟨g, cur, rfl, q1, q2, q3, q4, q5⟩
  · by_cases hm : m = 0
    · subst hm
      have hy0 : ys = [] := List.length_eq_zero_iff.1 (by simpa using hyl)
      have hx0 : xs = [] := List.length_eq_zero_iff.1 (by simpa using hxl)
      have g1 := Go.Run.ap_none (P := P) (ty := ty) (ats := #[t, t2]) rfl hu hi w (x := .slice b 0 c) (news := ys) (by rw [hsz]; exact hs)
      exact key _ _ g1 (Rest.refl w) (H none 0 w.heap ⟨by rw [hx0, hy0]; simp, .inl ⟨rfl, rfl, rfl⟩⟩ ⟨Nat.le_refl _, fun _ _ _ => rfl, fun p hp => by cases hp⟩)
    · exact grow (by omega)
  · by_cases hr : len + m ≤ cap
    · have hms : (len + m) * s ≤ cap * s := Nat.mul_le_mul_right _ hr
      rw [Nat.add_mul] at hms
      have g1 := Go.Run.ap_room (P := P) (ty := ty) (ats := #[t, t2]) (sLen := len) (sCap := cap) (off := 0) rfl hu hi w (by rw [hsz]; exact hs) q2 h1 hr (by rw [hsz]; omega)
      refine key _ _ g1 ⟨rfl, rfl, rfl⟩ (H _ _ _ ⟨hlen, .inr ⟨g, _, rfl, q1, (setRow_heap q2 _).1, ?_, hr, ?_⟩⟩ ⟨by simp [World.setRow], fun c hc hne => ?_, fun p hp => .inl ⟨p, hp, rfl⟩⟩)
      · simp [splice, hsz]; omega
      · rw [List.toList_toArray, hsz, Nat.zero_add, splice, q5]
        rw [List.take_append_of_le_length (by omega), List.take_of_length_le (by omega)]
      · have : g ≠ c := hne _ rfl
        simp [World.setRow, Array.getElem?_modify, this]
    · exact grow (by omega)
/-- APPEND, by the tables' facts. -/
theorem append_valsT {t t2 el e2 : TypeId} {z : Value} {s : Nat} (hu : P.underlying t = some (.slice el)) (hu2 : P.underlying t2 = some (.slice e2)) (hi : (P.info? el).isSome = true) (hsz : szT P el = s) (hz : zeroT P el = some z) (hzs : z.cells.size = s)
    {x y : Operand} {a b : Option Addr} {len cap m c : Nat} {xs ys : List Value} {K : Value → Heap → Prop} (hx : ev er x = .slice a len cap) (hy : ev er y = .slice b m c) (O : OwnV h0 h el s a len cap xs) (h0h : h0 ≤ h.size) (I : Row h b ys) (hyl : ys.length = m * s) (h1 : ∀ u ∈ ys, u.oneCell' = true) (hb : len + m ≤ 1000000) (hby : (len + m) * bytesT P el ≤ 1000000)
    (H : ∀ a' cap' h', OwnV h0 h' el s a' (len + m) cap' (xs ++ ys) → App h h' a a' → K (.slice a' (len + m) cap') h') : opSem P (.call ⟨.builtin .append, #[x, y], #[t, t2]⟩) ty er h K := by
  obtain ⟨i, hi⟩ := Option.isSome_iff_exists.1 hi
  refine append_vals hu hu2 hi (by simpa [szT, hi] using hsz) (z := z) (by simpa [zeroT, hi] using hz) hzs hx hy O h0h I hyl h1 hb (by simpa [bytesT, hi] using hby) H
end vrows
theorem opW_entry {P : Program} {x : Operand} {ty : TypeId} {e : Env} {h : Heap} {K : Value → Heap → Prop} : opW P (.entry x) ty e h K = opSem P (.entry x) ty e h K := by
  unfold opW pvW alcW
  rfl
/-! a walk step by step: where an operation goes beyond the integers' bounds -/
section steps
variable {l : Option Nat} {P : Program} {e : Env} {d : List Deferred} {h : Heap} {k : Cont}
theorem WP_seq {a b : Code} (H : WP l P a (thenK (fun e d h => WP l P b k e d h) k) e d h) : WP l P (.seq a b) k e d h := by
  unfold WP at *
  refine fun w hw => wpIn_seq (wpIn_mono (H w hw) ?_)
  rintro x a' w' ⟨hq, hr⟩
  unfold thenK at hq
  cases x with
  | normal =>
    have h2 := hq w' rfl
    rw [toList_act] at h2
    exact wpIn_mono h2 fun x a w'' q => ⟨q.1, hr.trans q.2⟩
  | _ => exact ⟨hq, hr⟩
theorem WP_block {i : Nat} {c : Code} (H : WP l P c (blockK i k) e d h) : WP l P (.block i c) k e d h := by
  unfold WP at *
  refine fun w hw => wpIn_block (wpIn_mono (H w hw) ?_)
  rintro x a' w' ⟨hq, hr⟩
  unfold blockK at hq
  cases x with
  | exit j =>
    simp only at hq
    simp only [Exit.inBlock]
    split
    · rename_i hj; rw [if_pos hj] at hq; exact ⟨hq, hr⟩
    · rename_i hj; rw [if_neg hj] at hq; exact ⟨hq, hr⟩
  | _ => exact ⟨hq, hr⟩
theorem WP_cond {c : Operand} {x y : Code} {b : Bool} (hb : ev e c = .bool b) (H : WP l P (if b then x else y) k e d h) : WP l P (.cond c x y) k e d h := by
  unfold WP at *
  refine fun w hw => wpIn_cond_split (t := b) (by rw [eval_ev]; exact hb) (fun ht => ?_) (fun ht => ?_)
  · subst ht; exact H w hw
  · subst ht; exact H w hw
/-- The operations of a region of which one is taken by its meaning. -/
def execJ (P : Program) (all : List Oper) : Nat → List Oper → Cont → Env → List Deferred → Heap → Prop
  | _, [], _, _, _, _ => False
  | 0, o :: rest, k, e, d, h => o.guard = none ∧ opSem P o.op o.type e h (fun v h' => execR P all rest k (putE e o.dst v) d h')
  | j + 1, o :: rest, k, e, d, h => o.guard = none ∧ opW P o.op o.type e h (fun v h' => execJ P all j rest k (putE e o.dst v) d h')
theorem execJ_sound {all : List Oper} {w0 : World} : ∀ (j : Nat) (ops : List Oper) (e : Env) (d : List Deferred) (w : World), Eng.Rest w0 w → execJ P all j ops k e d w.heap →
    wpListIn (fen l) 0 P all.toArray (fun x a w' => k x a.tmps.toList a.defers w'.heap ∧ Eng.Rest w0 w') ops ⟨e.toArray, d⟩ w
  | j, [], e, d, w, hr, H => by cases j <;> exact H.elim
  | 0, o :: rest, e, d, w, hr, H => by
    obtain ⟨hg, H⟩ := H
    unfold wpListIn
    have hw : Region.wanted o (yielded all.toArray e.toArray) = true := by simp [Region.wanted, hg]
    simp only [hw, if_true]
    refine wpIn_of_opSem (opSem_mono ?_ H)
    intro v h' hk w' hw' hr'
    subst hw'
    exact execR_sound rest _ d w' (hr.trans hr') hk
  | j + 1, o :: rest, e, d, w, hr, H => by
    obtain ⟨hg, H⟩ := H
    unfold wpListIn
    have hw : Region.wanted o (yielded all.toArray e.toArray) = true := by simp [Region.wanted, hg]
    simp only [hw, if_true]
    refine wpIn_of_opSem (opSem_mono ?_ (opW_sound H))
    intro v h' hk w' hw' hr'
    subst hw'
    exact execJ_sound j rest _ d w' (hr.trans hr') hk
theorem WP_regionJ {id : Nat} {ops : List Oper} (j : Nat) (H : execJ P ops j ops k e d h) : WP l P (.region id ops.toArray false) k e d h := by
  unfold WP
  intro w hw
  subst hw
  exact wpIn_region_list (by have := execJ_sound (l := l) (w0 := w) j ops e d w (Eng.Rest.refl w) H; simpa using this)
theorem sub_wrap {ty u yt : TypeId} {x y : Operand} {n : IntKind} {a b : Int} {K : Value → Heap → Prop} (hx : ev e x = .int n a) (hy : ev e y = .int n b) (H : K (.int n (n.wrap (a - b))) h) : opSem P (.binOp .sub u x y yt) ty e h K :=
  opSem_pure rfl _ H fun w hw => by simp [execOp, eqGuard, hx, hy, Go.binOp, Op.intArith]
end steps
/-! maps -/
section maps
open Go.Run
variable {P : Program} {h : Heap} {er : Env} {ty : TypeId} {α : Type}
def entM (kv : α → Value) (x : α × Value × Nat) : MapEntry := { key := kv x.1, val := x.2.1, born := x.2.2 }
theorem map_erase {kv : α → Value} : ∀ (es : List (α × Value × Nat)) (j : Nat), (es.map (entM kv)).eraseIdx j = (es.eraseIdx j).map (entM kv)
  | [], j => by simp
  | x :: r, 0 => by simp
  | x :: r, j + 1 => by simp [map_erase r j]
/-- A map: its entries in the order of their births. -/
structure MapV (kv : α → Value) (h : Heap) (b : Nat) (es : List (α × Value × Nat)) (c : Nat) : Prop where
  obj : h[b]? = some (.map (es.map (entM kv)).toArray c)
  born : (es.map (·.2.2)).Pairwise (· < ·)
  lt : ∀ x ∈ es, x.2.2 < c
theorem MapV.empty {kv : α → Value} (h : Heap) : MapV kv (h.push (.map #[] 0)) h.size [] 0 := ⟨by simp, by simp, by simp⟩
theorem MapV.keep {kv : α → Value} {b c : Nat} {es : List (α × Value × Nat)} {h' : Heap} (M : MapV kv h b es c) (hk : h'[b]? = h[b]?) : MapV kv h' b es c := ⟨hk.trans M.obj, M.born, M.lt⟩
theorem MapV.ext {kv : α → Value} {b c : Nat} {es : List (α × Value × Nat)} {h' : Heap} (M : MapV kv h b es c) (x : Ext h h') : MapV kv h' b es c := M.keep (x.old _ (lt_of_get M.obj))
theorem set_upd {b : Nat} {o o' : Obj} (hb : h[b]? = some o) : (h.setIfInBounds b o')[b]? = some o' ∧ Upd h (h.setIfInBounds b o') b := by
  have hlt := lt_of_get hb
  exact ⟨by simp [Array.getElem?_setIfInBounds, hlt], by simp, fun b' hb' => Array.getElem?_setIfInBounds_ne (Ne.symm hb')⟩
/-- range m -/
theorem map_rangeT {u kt vt : TypeId} {kv : α → Value} (hu : P.underlying u = some (.map kt vt)) {b c : Nat} {es : List (α × Value × Nat)} (M : MapV kv h b es c) {x : Operand} {Q : Value → Heap → Prop} (hx : ev er x = .map (some b))
    (H : Q (.pointer (some ⟨h.size, 0, none⟩)) (h.push (.mapIter (some b) c #[] c))) : opSem P (.range u x) ty er h Q := by
  refine opSem_value rfl (.pointer (some ⟨h.size, 0, none⟩)) (h.push (.mapIter (some b) c #[] c)) H fun w hw => ?_
  subst hw
  have g1 := MapKept.run_getObj_map (P := P) M.obj
  exact ⟨{ w with heap := w.heap.push (.mapIter (some b) c #[] c) }, by simp [execOp, Instr.range, hx, run_underlying hu, g1], rfl, rfl, rfl, rfl⟩
theorem left_map {kv : α → Value} (es : List (α × Value × Nat)) (seen : Array Nat) : (leftOf (es.map (entM kv)).toArray seen).toList = (es.filter fun x => !seen.contains x.2.2).map (entM kv) := by
  unfold leftOf
  rw [Array.toList_filter, List.toList_toArray, List.filter_map]
  rfl
/-- The next entry: any that has not been seen. -/
theorem map_nextT {kv : α → Value} {b c r since c0 : Nat} {seen : Array Nat} {es : List (α × Value × Nat)} (M : MapV kv h b es c) (hr : h[r]? = some (.mapIter (some b) since seen c0)) (hold : ∀ x ∈ es, x.2.2 < since) (hsc : since ≤ c0)
    {x : Operand} {Q : Value → Heap → Prop} (hx : ev er x = .pointer (some ⟨r, 0, none⟩)) (H0 : (∀ x ∈ es, seen.contains x.2.2 = true) → Q (.tuple #[.bool false]) h)
    (H1 : ∀ e ∈ es, seen.contains e.2.2 = false → ∀ h', h'[r]? = some (.mapIter (some b) since (seen.push e.2.2) c) → Upd h h' r → Q (.tuple #[.bool true, kv e.1, e.2.1]) h') : opSem P (.next x false) ty er h Q := by
  unfold opSem
  refine And.intro rfl fun w hw => ?_
  have M1 := M.obj
  rw [← hw] at M1 hr
  rcases run_next_at (P := P) w ty r b since c0 seen _ c hr M1 (fun y hy => by
    rw [List.toList_toArray] at hy
    obtain ⟨q, hq, rfl⟩ := List.mem_map.1 hy
    exact hold q hq) hsc with ⟨h1, h2⟩ | ⟨e, he, w1, hw1, hrun⟩
  · have : (execOp (ev er) { dst := none, op := .next x false, type := ty, pos := "", after := #[], guard := none }).run P w = .ok (.value (.tuple #[.bool false])) w := by
      simp [execOp, hx, h2]
    rw [this]
    refine ⟨?_, Rest.refl w⟩
    rw [hw]
    refine H0 fun y hy => ?_
    rw [← Array.length_toList, left_map] at h1
    have h1 := List.length_eq_zero_iff.1 h1
    rw [List.map_eq_nil_iff, List.filter_eq_nil_iff] at h1
    have := h1 y hy
    simpa using this
  · rw [left_map] at he
    obtain ⟨q, hq, rfl⟩ := List.mem_map.1 he
    have hq := List.mem_filter.1 hq
    have : (execOp (ev er) { dst := none, op := .next x false, type := ty, pos := "", after := #[], guard := none }).run P w = .ok (.value (.tuple #[.bool true, kv q.1, q.2.1])) (ChangeMaps.setBlock w1 r (.mapIter (some b) since (seen.push q.2.2) c)) := by
      simp only [execOp, hx, Sem.run_bind, hrun, Result.andThen_ok, Sem.run_pure, entM]
    rw [this]
    have hs := set_upd (o' := .mapIter (some b) since (seen.push q.2.2) c) hr
    refine ⟨H1 q hq.1 (by simpa using hq.2) _ ?_ ?_, ?_⟩
    · rcases hw1 with rfl | rfl <;> exact hs.1
    · rw [← hw]
      rcases hw1 with rfl | rfl <;> exact hs.2
    · rcases hw1 with rfl | rfl <;> exact ⟨rfl, rfl, rfl⟩
/-- The entry that the range stands at. -/
theorem map_entryT {kv : α → Value} {b c r since : Nat} {seen : Array Nat} {es : List (α × Value × Nat)} (M : MapV kv h b es c) {e : α × Value × Nat} (he : e ∈ es) (hr : h[r]? = some (.mapIter (some b) since (seen.push e.2.2) c))
    {x : Operand} {Q : Value → Heap → Prop} (hx : ev er x = .pointer (some ⟨r, 0, none⟩)) (H : Q (.tuple #[kv e.1, e.2.1]) h) : opSem P (.entry x) ty er h Q := by
  refine opSem_pure rfl _ H fun w hw => ?_
  have M1 := M.obj
  rw [← hw] at M1 hr
  have := run_entry_at (P := P) w r b since seen _ c (entM kv e) hr M1 (by rw [List.toList_toArray]; exact List.mem_map.2 ⟨e, he, rfl⟩) (by
    rw [List.toList_toArray, List.map_map]
    exact M.born.imp (fun h => Nat.ne_of_lt h))
  simp only [execOp, hx, Sem.run_bind, this, Result.andThen_ok, Sem.run_pure, entM]
variable [DecidableEq α]
def findA (a : α) : List (α × Value × Nat) → Nat → Option (Nat × Value)
  | [], _ => none
  | x :: r, i => if a = x.1 then some (i, x.2.1) else findA a r (i + 1)
def getA (a : α) : List (α × Value × Nat) → Option Value
  | [] => none
  | x :: r => if a = x.1 then some x.2.1 else getA a r
def putA (a : α) (v : Value) (c : Nat) : List (α × Value × Nat) → List (α × Value × Nat)
  | [] => [(a, v, c)]
  | x :: r => if a = x.1 then (a, v, x.2.2) :: r else x :: putA a v c r
def delA (a : α) : List (α × Value × Nat) → List (α × Value × Nat)
  | [] => []
  | x :: r => if a = x.1 then r else x :: delA a r
theorem findA_none {a : α} : ∀ {es : List (α × Value × Nat)} {i : Nat}, findA a es i = none → getA a es = none ∧ (∀ v c, putA a v c es = es ++ [(a, v, c)]) ∧ delA a es = es
  | [], i, _ => ⟨rfl, fun _ _ => rfl, rfl⟩
  | x :: r, i, h => by
    unfold findA at h
    split at h
    · cases h
    · rename_i hx
      obtain ⟨h1, h2, h3⟩ := findA_none h
      exact ⟨by simp [getA, hx, h1], fun v c => by simp [putA, hx, h2], by simp [delA, hx, h3]⟩
theorem findA_some {a : α} : ∀ {es : List (α × Value × Nat)} {i j : Nat} {u : Value}, findA a es i = some (j, u) →
    ∃ k x, j = i + k ∧ es[k]? = some x ∧ x.1 = a ∧ x.2.1 = u ∧ getA a es = some u ∧ (∀ v c, putA a v c es = es.modify k (fun x => (a, v, x.2.2))) ∧ delA a es = es.eraseIdx k
  | [], i, j, u, h => by cases h
  | x :: r, i, j, u, h => by
    unfold findA at h
    split at h
    · rename_i hx
      cases h
      exact ⟨0, x, rfl, rfl, hx.symm, rfl, by simp [getA, hx], fun v c => by simp [putA, hx], by simp [delA, hx]⟩
    · rename_i hx
      obtain ⟨k, y, h1, h2, h3, h4, h5, h6, h7⟩ := findA_some h
      exact ⟨k + 1, y, by omega, by simpa using h2, h3, h4, by simp [getA, hx, h5], fun v c => by simp [putA, hx, h6], by simp [delA, hx, h7]⟩
/-- Keys: that the map's own questions tell them apart. -/
structure Keys (P : Program) (kt : TypeId) (kv : α → Value) : Prop where
  find : ∀ (a : α) (es : List (α × Value × Nat)) (W : World), (Instr.findKey kt (kv a) (es.map (entM kv))).run P W = .ok (findA a es 0) W
  check : ∀ (a : α) (em : Bool) (W : World), (Instr.checkKey em 10000 kt (kv a)).run P W = .ok () W
  stays : ∀ (a : α) (W : World), (Instr.keyThatStays (kv a) (kv a)).run P W = .ok (kv a) W
theorem ask_keys {kt : TypeId} {ki : TI} {kf : α → T} {kv : α → Value} (tf : TF P kt ki) (vr : ∀ a, VR (fun _ => none) (kf a) (kv a)) (eq : ∀ a b, keyEq ki (kf a) (kf b) = some (decide (a = b))) (a : α) (W : World) :
    ∀ (es : List (α × Value × Nat)) (i : Nat), (Instr.findAsking kt (kv a) (es.map (entM kv)) i).run P W = .ok (findA a es i) W
  | [], i => by simp [Instr.findAsking, findA]
  | x :: es, i => by
    obtain ⟨q1, _⟩ := keyEq_run tf (vr a) (vr x.1) (eq a x.1) W
    have ih := ask_keys tf vr eq a W es (i + 1)
    by_cases hx : a = x.1
    · subst hx
      simp only [decide_true] at q1
      simp [Instr.findAsking, findA, entM, q1, Result.andThen]
    · simp [Instr.findAsking, findA, entM, q1, hx, Result.andThen] at q1 ih ⊢
      exact ih
/-- Keys that are structs or arrays of plain cells. -/
theorem Keys.flat {kt : TypeId} {ki : TI} {kf : α → T} {kv : α → Value} (hw : (match P.underlying kt with | some (.array _ _) | some (.struct _) => true | _ => false) = true) (tf : TF P kt ki) (vr : ∀ a, VR (fun _ => none) (kf a) (kv a)) (eq : ∀ a b, keyEq ki (kf a) (kf b) = some (decide (a = b))) : Keys P kt kv where
  find a es W := by
    rw [run_findKey_eq W hw]
    exact ask_keys tf vr eq a W es 0
  check a em W := check_run tf (vr a) (by rw [eq a a]; simp) em W
  stays a W := stays_run (vr a) (by rw [eq a a]; simp) W
def clkA (a : α) (es : List (α × Value × Nat)) (c : Nat) : Nat := if (getA a es).isSome then c else c + 1
theorem put_born {a : α} {v : Value} {c : Nat} : ∀ {es : List (α × Value × Nat)}, (putA a v c es).map (·.2.2) = es.map (·.2.2) ++ (if (getA a es).isSome then [] else [c])
  | [] => rfl
  | x :: r => by
    by_cases hx : a = x.1
    · simp [putA, getA, hx]
    · simp [putA, getA, hx, put_born (es := r)]
theorem del_sub {a : α} : ∀ {es : List (α × Value × Nat)}, (delA a es).Sublist es
  | [] => List.Sublist.refl _
  | x :: r => by
    by_cases hx : a = x.1
    · simp [delA, hx]
    · simp only [delA, hx, if_false]; exact del_sub.cons_cons x
theorem MapV.put {kv : α → Value} {b c : Nat} {es : List (α × Value × Nat)} {h' : Heap} {a : α} {v : Value} (M : MapV kv h b es c) (ho : h'[b]? = some (.map ((putA a v c es).map (entM kv)).toArray (clkA a es c))) : MapV kv h' b (putA a v c es) (clkA a es c) := by
  refine ⟨ho, ?_, fun x hx => ?_⟩
  · rw [put_born]
    split
    · simpa using M.born
    · rw [List.pairwise_append]
      refine ⟨M.born, by simp, fun y hy z hz => ?_⟩
      obtain ⟨q, hq, rfl⟩ := List.mem_map.1 hy
      have := M.lt q hq
      simp at hz
      omega
  · have h1 : x.2.2 ∈ (putA a v c es).map (·.2.2) := List.mem_map.2 ⟨x, hx, rfl⟩
    rw [put_born] at h1
    unfold clkA
    rcases List.mem_append.1 h1 with h1 | h1
    · obtain ⟨q, hq, hqe⟩ := List.mem_map.1 h1
      have := M.lt q hq
      split <;> omega
    · split at h1
      · cases h1
      · rename_i hn
        simp at h1
        rw [if_neg hn]
        omega
theorem MapV.del {kv : α → Value} {b c : Nat} {es : List (α × Value × Nat)} {h' : Heap} {a : α} (M : MapV kv h b es c) (ho : h'[b]? = some (.map ((delA a es).map (entM kv)).toArray c)) : MapV kv h' b (delA a es) c :=
  ⟨ho, M.born.sublist (del_sub.map _), fun x hx => M.lt x (del_sub.subset hx)⟩
/-- m[k] = v -/
theorem map_putT {u kt vt : TypeId} {kv : α → Value} (hu : P.underlying u = some (.map kt vt)) (K : Keys P kt kv) {b c : Nat} {es : List (α × Value × Nat)} (M : MapV kv h b es c) {a : α} {v : Value}
    {x k y : Operand} {Q : Value → Heap → Prop} (hx : ev er x = .map (some b)) (hk : ev er k = kv a) (hy : ev er y = v)
    (H : ∀ h', MapV kv h' b (putA a v c es) (clkA a es c) → Upd h h' b → Q undef h') : opSem P (.mapUpdate u x k y) ty er h Q := by
  have hs := set_upd (o' := .map ((putA a v c es).map (entM kv)).toArray (clkA a es c)) M.obj
  refine opSem_skip rfl (h.setIfInBounds b (.map ((putA a v c es).map (entM kv)).toArray (clkA a es c))) (H _ (M.put hs.1) hs.2) fun W hW => ⟨{ W with heap := W.heap.setIfInBounds b (.map ((putA a v c es).map (entM kv)).toArray (clkA a es c)) }, ?_, by rw [hW], rfl, rfl, rfl⟩
  have M1 := M.obj
  rw [← hW] at M1
  have c1 := K.check a false W
  have f1 := K.find a es W
  have g1 := MapKept.run_getObj_map (P := P) M1
  have g2 := MapKept.run_setObj_map (P := P) (.map ((putA a v c es).map (entM kv)).toArray (clkA a es c)) M1
  cases hf : findA a es 0 with
  | none =>
    obtain ⟨q1, q2, _⟩ := findA_none hf
    have e1 : ((es.map (entM kv)).toArray.push { key := kv a, val := v, born := c }) = ((putA a v c es).map (entM kv)).toArray := by simp [q2, entM]
    have e2 : clkA a es c = c + 1 := by simp [clkA, q1]
    rw [hf] at f1
    rw [e2] at g2 ⊢
    simp only [execOp, Instr.mapUpdate, hx, hk, hy, Sem.run_bind, run_underlying hu, Result.andThen_ok, g1, c1, List.toList_toArray, f1, e1, g2, Sem.run_pure]
  | some r =>
    obtain ⟨j, u0⟩ := r
    obtain ⟨k0, x0, h1, h2, h3, h4, h5, h6, _⟩ := findA_some hf
    have h1 : j = k0 := by omega
    subst h1
    have e1 : ((es.map (entM kv)).toArray.modify j fun e => { e with key := kv a, val := v }) = ((putA a v c es).map (entM kv)).toArray := by
      apply Array.toList_inj.1
      rw [modify_toList, h6]
      apply List.ext_getElem?
      intro i
      simp only [List.toList_toArray, List.getElem?_modify, List.getElem?_map, Option.map_map]
      split
      · cases es[i]? <;> simp [entM]
      · cases es[i]? <;> simp [entM]
    have e2 : clkA a es c = c := by simp [clkA, h5]
    have e3 : ((es.map (entM kv)).toArray[j]?.map (·.key)).getD (kv a) = kv a := by simp [h2, entM, h3]
    have st := K.stays a W
    rw [hf] at f1
    rw [e2] at g2 ⊢
    simp only [execOp, Instr.mapUpdate, hx, hk, hy, Sem.run_bind, run_underlying hu, Result.andThen_ok, g1, c1, List.toList_toArray, f1, e3, st, e1, g2, Sem.run_pure]
/-- delete(m, k) -/
theorem map_delT {u kt vt : TypeId} {kv : α → Value} (hu : P.underlying u = some (.map kt vt)) (K : Keys P kt kv) {b c : Nat} {es : List (α × Value × Nat)} (M : MapV kv h b es c) {a : α} {t2 : TypeId}
    {x k : Operand} {Q : Value → Heap → Prop} (hx : ev er x = .map (some b)) (hk : ev er k = kv a)
    (H : ∀ h', MapV kv h' b (delA a es) c → Upd h h' b → Q (.tuple #[]) h') : opSem P (.call ⟨.builtin .delete, #[x, k], #[u, t2]⟩) ty er h Q := by
  have hs := set_upd (o' := .map ((delA a es).map (entM kv)).toArray c) M.obj
  refine opSem_value rfl (.tuple #[]) (h.setIfInBounds b (.map ((delA a es).map (entM kv)).toArray c)) (H _ (M.del hs.1) hs.2) fun W hW => ⟨{ W with heap := W.heap.setIfInBounds b (.map ((delA a es).map (entM kv)).toArray c) }, ?_, by rw [hW], rfl, rfl, rfl⟩
  have M1 := M.obj
  rw [← hW] at M1
  have c1 := fun em => K.check a em W
  have f1 := K.find a es W
  have g1 := MapKept.run_getObj_map (P := P) M1
  have g2 := MapKept.run_setObj_map (P := P) (.map ((delA a es).map (entM kv)).toArray c) M1
  have hargs : #[x, k].map (ev er) = #[.map (some b), kv a] := by simp [hx, hk]
  have key : (Builtin.delete_ #[u, t2] ty #[.map (some b), kv a]).run P W = .ok (.tuple #[]) { W with heap := W.heap.setIfInBounds b (.map ((delA a es).map (entM kv)).toArray c) } := by
    cases hf : findA a es 0 with
    | none =>
      obtain ⟨_, _, q3⟩ := findA_none hf
      rw [hf] at f1
      rw [q3] at g2 ⊢
      simp [Builtin.delete_, run_underlying hu, g1, c1, f1, g2]
    | some r =>
      obtain ⟨j, u0⟩ := r
      obtain ⟨k0, x0, h1, h2, h3, h4, h5, _, h7⟩ := findA_some hf
      have h1 : j = k0 := by omega
      subst h1
      have e1 : ((es.map (entM kv)).toArray.eraseIdxIfInBounds j) = ((delA a es).map (entM kv)).toArray := by
        apply Array.toList_inj.1
        rw [erase_toList, h7]
        exact map_erase es j
      rw [hf] at f1
      rw [← e1] at g2 ⊢
      simp only [List.eraseIdxIfInBounds_toArray] at g2 ⊢
      simp [Builtin.delete_, run_underlying hu, g1, c1, f1, g2]
  simp only [execOp, resolve, invoke, builtin, Sem.run_bind, Sem.run_pure, Result.andThen_ok, hargs, key]
/-- m[k] -/
theorem map_getT {u kt vt : TypeId} {kv : α → Value} {z : Value} (hu : P.underlying u = some (.map kt vt)) (hz : zeroT P vt = some z) (K : Keys P kt kv) {b c : Nat} {es : List (α × Value × Nat)} (M : MapV kv h b es c) {a : α} {ok : Bool}
    {x k : Operand} {Q : Value → Heap → Prop} (hx : ev er x = .map (some b)) (hk : ev er k = kv a)
    (H : Q (if ok then .tuple #[(getA a es).getD z, .bool (getA a es).isSome] else (getA a es).getD z) h) : opSem P (.lookup u x k ok) ty er h Q := by
  refine opSem_pure rfl _ H fun W hW => ?_
  have M1 := M.obj
  rw [← hW] at M1
  have c1 := fun em => K.check a em W
  have f1 := K.find a es W
  have g1 := MapKept.run_getObj_map (P := P) M1
  have hz' : (zeroValue vt).run P W = .ok z W := by
    unfold zeroT at hz
    cases hj : P.info? vt with
    | none => simp [hj] at hz
    | some i => simp only [hj, Option.bind_some] at hz; simp [zeroValue, typeInfo, hj, hz]
  cases hf : findA a es 0 with
  | none =>
    obtain ⟨q1, _, _⟩ := findA_none hf
    rw [hf] at f1
    rw [q1]
    cases ok <;> simp [execOp, Instr.lookup, hx, hk, run_underlying hu, g1, c1, f1, hz', Result.andThen]
  | some r =>
    obtain ⟨j, u0⟩ := r
    obtain ⟨k0, x0, h1, h2, h3, h4, h5, _, h7⟩ := findA_some hf
    rw [hf] at f1
    rw [h5]
    cases ok <;> simp [execOp, Instr.lookup, hx, hk, run_underlying hu, g1, c1, f1, Result.andThen]
end maps
end Go.Eng
