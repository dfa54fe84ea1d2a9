/- Texts joined by pack.py: lemmas for YtafemfjhflfdeaaDoorKnown. No condition. -/
import Derived.Test.YtafemfjhflfdeaaDoorPB3
import Derived.Laws.RangeString
import Derived.MapFrom
import Derived.ChangeKeysEq
import Derived.Maps.RangeRun
import Derived.Laws.IdiomStrings
import Derived.Lib.UnsafeStr
import Derived.Lib.MakeNoZero
import Derived.Laws.CopyRow
set_option linter.unusedSimpArgs false
set_option linter.unusedVariables false
set_option linter.defProp false
section
set_option linter.unusedVariables false
set_option linter.unusedSimpArgs false
namespace Go.Run
open Go Go.Eng
section trees
variable {α β : Type}
theorem ite_eq {b : Bool} {x y : α} : ite b x y = if b = true then x else y := by cases b <;> rfl
noncomputable def En.set (q : Pa) (v : α) (t : En α) : En α := En.setK q v t id
theorem En.setK_eq' (q : Pa) (v : α) : ∀ (β : Type) (t : En α) (k : En α → β), En.setK q v t k = k (En.set q v t) := by
  induction q with
  | e => intro β t k; rfl
  | o q ih =>
    intro β t k
    cases t with
    | leaf w =>
      show En.setK q v (.leaf w) (fun l => k (.node l (.leaf w))) = k (En.setK q v (.leaf w) (fun l => .node l (.leaf w)))
      rw [ih, ih]
    | node l r =>
      show En.setK q v l (fun l => k (.node l r)) = k (En.setK q v l (fun l => .node l r))
      rw [ih, ih]
  | i q ih =>
    intro β t k
    cases t with
    | leaf w =>
      show En.setK q v (.leaf w) (fun r => k (.node (.leaf w) r)) = k (En.setK q v (.leaf w) (fun r => .node (.leaf w) r))
      rw [ih, ih]
    | node l r =>
      show En.setK q v r (fun r => k (.node l r)) = k (En.setK q v r (fun r => .node l r))
      rw [ih, ih]
theorem En.setK_eq (q : Pa) (v : α) (t : En α) (k : En α → β) : En.setK q v t k = k (En.set q v t) := En.setK_eq' q v β t k
noncomputable def Pa.len : Pa → Nat
  | .e => 0
  | .o q => q.len + 1
  | .i q => q.len + 1
theorem Pa.of_succ (d n : Nat) : Pa.of (d + 1) n = if n % 2 = 0 then .o (Pa.of d (n / 2)) else .i (Pa.of d (n / 2)) := by
  show ite (Nat.beq (n % 2) 0) (Pa.o (Pa.of d (n / 2))) (Pa.i (Pa.of d (n / 2))) = _
  rw [ite_eq]
  by_cases h : n % 2 = 0
  · simp [h]
  · have : Nat.beq (n % 2) 0 = false := by
      cases hb : Nat.beq (n % 2) 0 with
      | false => rfl
      | true => exact absurd (Nat.eq_of_beq_eq_true hb) h
    simp [h, this]
theorem Pa.len_of (d : Nat) : ∀ n, (Pa.of d n).len = d := by
  induction d with
  | zero => intro n; rfl
  | succ d ih =>
    intro n
    rw [Pa.of_succ]
    split <;> simp [Pa.len, ih]
theorem Pa.of_inj (d : Nat) : ∀ {a b : Nat}, a < 2 ^ d → b < 2 ^ d → Pa.of d a = Pa.of d b → a = b := by
  induction d with
  | zero => intro a b ha hb _; simp at ha hb; omega
  | succ d ih =>
    intro a b ha hb h
    rw [Pa.of_succ, Pa.of_succ] at h
    have h1 : a / 2 < 2 ^ d := by rw [Nat.pow_succ] at ha; omega
    have h2 : b / 2 < 2 ^ d := by rw [Nat.pow_succ] at hb; omega
    split at h <;> split at h
    · have := ih h1 h2 (by simpa using h); omega
    · cases h
    · cases h
    · have := ih h1 h2 (by simpa using h); omega
theorem En.get_o (q : Pa) (t : En α) : En.get (.o q) t = match t with | .leaf v => v | .node l _ => En.get q l := by cases t <;> rfl
theorem En.get_i (q : Pa) (t : En α) : En.get (.i q) t = match t with | .leaf v => v | .node _ r => En.get q r := by cases t <;> rfl
theorem En.set_e (v : α) (t : En α) : En.set .e v t = .leaf v := rfl
theorem En.set_o (q : Pa) (v : α) (t : En α) : En.set (.o q) v t = match t with | .leaf w => .node (En.set q v (.leaf w)) (.leaf w) | .node l r => .node (En.set q v l) r := by
  cases t with
  | leaf w => show En.setK q v (.leaf w) (fun l => En.node l (.leaf w)) = _; rw [En.setK_eq]
  | node l r => show En.setK q v l (fun l => En.node l r) = _; rw [En.setK_eq]
theorem En.set_i (q : Pa) (v : α) (t : En α) : En.set (.i q) v t = match t with | .leaf w => .node (.leaf w) (En.set q v (.leaf w)) | .node l r => .node l (En.set q v r) := by
  cases t with
  | leaf w => show En.setK q v (.leaf w) (fun r => En.node (.leaf w) r) = _; rw [En.setK_eq]
  | node l r => show En.setK q v r (fun r => En.node l r) = _; rw [En.setK_eq]
theorem En.get_leaf (q : Pa) (v : α) : En.get q (.leaf v) = v := by cases q <;> rfl
theorem En.get_set : ∀ (q p : Pa) (v : α) (t : En α), p.len = q.len → En.get p (En.set q v t) = if p = q then v else En.get p t
  | .e, .e, v, t, _ => by simp [En.set_e, En.get_leaf]
  | .o q, .o p, v, t, h => by
    have h : p.len = q.len := by simpa [Pa.len] using h
    rw [En.set_o]
    cases t with
    | leaf w => simp only [En.get_o, En.get_set q p v _ h, Pa.o.injEq, En.get_leaf]
    | node l r => simp only [En.get_o, En.get_set q p v _ h, Pa.o.injEq]
  | .i q, .i p, v, t, h => by
    have h : p.len = q.len := by simpa [Pa.len] using h
    rw [En.set_i]
    cases t with
    | leaf w => simp only [En.get_i, En.get_set q p v _ h, Pa.i.injEq, En.get_leaf]
    | node l r => simp only [En.get_i, En.get_set q p v _ h, Pa.i.injEq]
  | .o q, .i p, v, t, _ => by
    rw [En.set_o]
    cases t with
    | leaf w => simp [En.get_i, En.get_leaf]
    | node l r => simp [En.get_i]
  | .i q, .o p, v, t, _ => by
    rw [En.set_i]
    cases t with
    | leaf w => simp [En.get_o, En.get_leaf]
    | node l r => simp [En.get_o]
  | .e, .o p, _, _, h => by simp [Pa.len] at h
  | .e, .i p, _, _, h => by simp [Pa.len] at h
  | .o q, .e, _, _, h => by simp [Pa.len] at h
  | .i q, .e, _, _, h => by simp [Pa.len] at h
theorem En.get_set_of {d a b : Nat} (ha : a < 2 ^ d) (hb : b < 2 ^ d) (v : α) (t : En α) : En.get (Pa.of d a) (En.set (Pa.of d b) v t) = if a = b then v else En.get (Pa.of d a) t := by
  rw [En.get_set _ _ _ _ (by rw [Pa.len_of, Pa.len_of])]
  by_cases h : a = b
  · subst h; simp
  · rw [if_neg h, if_neg fun hh => h (Pa.of_inj d ha hb hh)]
end trees
theorem ble_iff {a b : Nat} : Nat.ble a b = true ↔ a ≤ b := by rw [Nat.ble_eq]
structure Inf where
  r : Nat
  cap : Nat
  gh : Array MapEntry
  clock : Nat
  w : Nat
abbrev Io := Nat → Option Inf
mutual
noncomputable def VR (ι : Io) : T → Value → Prop
  | .bool b, v => v = .bool b
  | .int k n, v => v = .int k n
  | .str s, v => v = .string ⟨⟨s⟩⟩
  | .nptr, v => v = .pointer none
  | .ptr b o, v => ∃ x, ι b = some x ∧ v = .pointer (some ⟨x.r, o, none⟩)
  | .nslice, v => v = .slice none 0 0
  | .slice b o n c, v => ∃ x, ι b = some x ∧ v = .slice (some ⟨x.r, o, none⟩) n c
  | .own b n, v => ∃ x, ι b = some x ∧ v = .slice (some ⟨x.r, 0, none⟩) n x.cap ∧ n ≤ x.cap
  | .sub b o n, v => ∃ x c, ι b = some x ∧ v = .slice (some ⟨x.r, o, none⟩) n c ∧ n ≤ c
  | .empty, v => ∃ a c, v = .slice (some a) 0 c
  | .nmap, v => v = .map none
  | .map b, v => ∃ x, ι b = some x ∧ v = .map (some x.r)
  | .func f a b, v => match f with
    | .yield l => a = [] ∧ b = [] ∧ ∃ x, ι l = some x ∧ v = .func (.yield x.r) #[] #[]
    | f => ∃ c d, v = .func f c d ∧ VL ι a c.toList ∧ VL ι b d.toList
  | .nfunc, v => v = .nilFunc
  | .niface, v => v = .nilIface
  | .agg cs, v => ∃ vs, v = .agg vs ∧ VL ι cs vs.toList
  | .tup cs, v => ∃ vs, v = .tuple vs ∧ VL ι cs vs.toList
  | .any, _ => True
noncomputable def VL (ι : Io) : List T → List Value → Prop
  | [], vs => vs = []
  | c :: cs, vs => ∃ v rest, vs = v :: rest ∧ VR ι c v ∧ VL ι cs rest
end
noncomputable def Sub (ι ι' : Io) : Prop := ∀ b x, ι b = some x → ι' b = some x
mutual
theorem VR.mono {ι ι' : Io} (hs : Sub ι ι') : ∀ (t : T) {v : Value}, VR ι t v → VR ι' t v
  | .bool b, v, h => by simpa only [VR] using h
  | .int k n, v, h => by simpa only [VR] using h
  | .str s, v, h => by simpa only [VR] using h
  | .nptr, v, h => by simpa only [VR] using h
  | .ptr b o, v, h => by simp only [VR] at *; obtain ⟨x, h1, h2⟩ := h; exact ⟨x, hs _ _ h1, h2⟩
  | .nslice, v, h => by simpa only [VR] using h
  | .slice b o n c, v, h => by simp only [VR] at *; obtain ⟨x, h1, h2⟩ := h; exact ⟨x, hs _ _ h1, h2⟩
  | .own b n, v, h => by simp only [VR] at *; obtain ⟨x, h1, h2⟩ := h; exact ⟨x, hs _ _ h1, h2⟩
  | .sub b o n, v, h => by simp only [VR] at *; obtain ⟨x, c, h1, h2⟩ := h; exact ⟨x, c, hs _ _ h1, h2⟩
  | .empty, v, h => by simpa only [VR] using h
  | .nmap, v, h => by simpa only [VR] using h
  | .map b, v, h => by simp only [VR] at *; obtain ⟨x, h1, h2⟩ := h; exact ⟨x, hs _ _ h1, h2⟩
  | .func f a b, v, h => by
    simp only [VR] at *
    split at h
    · obtain ⟨h1, h2, x, h3, h4⟩ := h; exact ⟨h1, h2, x, hs _ _ h3, h4⟩
    · obtain ⟨c, d, h1, h2, h3⟩ := h; exact ⟨c, d, h1, VL.mono hs a h2, VL.mono hs b h3⟩
  | .nfunc, v, h => by simpa only [VR] using h
  | .niface, v, h => by simpa only [VR] using h
  | .agg cs, v, h => by simp only [VR] at *; obtain ⟨vs, h1, h2⟩ := h; exact ⟨vs, h1, VL.mono hs cs h2⟩
  | .tup cs, v, h => by simp only [VR] at *; obtain ⟨vs, h1, h2⟩ := h; exact ⟨vs, h1, VL.mono hs cs h2⟩
  | .any, v, h => by simp only [VR]
theorem VL.mono {ι ι' : Io} (hs : Sub ι ι') : ∀ (ts : List T) {vs : List Value}, VL ι ts vs → VL ι' ts vs
  | [], vs, h => by simpa only [VL] using h
  | c :: cs, vs, h => by
    simp only [VL] at *
    obtain ⟨v, rest, h1, h2, h3⟩ := h
    exact ⟨v, rest, h1, VR.mono hs c h2, VL.mono hs cs h3⟩
end
theorem VL.length {ι : Io} : ∀ {ts : List T} {vs : List Value}, VL ι ts vs → vs.length = ts.length
  | [], vs, h => by simp only [VL] at h; simp [h]
  | c :: cs, vs, h => by
    simp only [VL] at h
    obtain ⟨v, rest, h1, h2, h3⟩ := h
    simp [h1, VL.length h3]
theorem VL.append {ι : Io} : ∀ {ts us : List T} {vs ws : List Value}, VL ι ts vs → VL ι us ws → VL ι (ts ++ us) (vs ++ ws)
  | [], us, vs, ws, h, k => by simp only [VL] at h; simpa [h] using k
  | c :: cs, us, vs, ws, h, k => by
    simp only [VL] at h
    obtain ⟨v, rest, rfl, h2, h3⟩ := h
    simp only [List.cons_append, VL]
    exact ⟨v, rest ++ ws, rfl, h2, VL.append h3 k⟩
theorem VL.get {ι : Io} : ∀ {ts : List T} {vs : List Value} {i : Nat} {t : T}, VL ι ts vs → ts[i]? = some t → ∃ v, vs[i]? = some v ∧ VR ι t v
  | [], vs, i, t, h, k => by simp at k
  | c :: cs, vs, 0, t, h, k => by
    simp only [VL] at h
    obtain ⟨v, rest, rfl, h2, h3⟩ := h
    simp at k; subst k
    exact ⟨v, rfl, h2⟩
  | c :: cs, vs, i + 1, t, h, k => by
    simp only [VL] at h
    obtain ⟨v, rest, rfl, h2, h3⟩ := h
    simp at k
    simpa using VL.get h3 k
theorem VL.take {ι : Io} : ∀ {ts : List T} {vs : List Value} (n : Nat), VL ι ts vs → VL ι (ts.take n) (vs.take n)
  | [], vs, n, h => by simp only [VL] at h; simp [h, VL]
  | c :: cs, vs, 0, h => by simp [VL]
  | c :: cs, vs, n + 1, h => by
    simp only [VL] at h
    obtain ⟨v, rest, rfl, h2, h3⟩ := h
    simp only [List.take_succ_cons, VL]
    exact ⟨v, _, rfl, h2, VL.take n h3⟩
theorem VL.drop {ι : Io} : ∀ {ts : List T} {vs : List Value} (n : Nat), VL ι ts vs → VL ι (ts.drop n) (vs.drop n)
  | [], vs, n, h => by simp only [VL] at h; simp [h, VL]
  | c :: cs, vs, 0, h => by simpa using h
  | c :: cs, vs, n + 1, h => by
    simp only [VL] at h
    obtain ⟨v, rest, rfl, h2, h3⟩ := h
    simpa using VL.drop n h3
theorem VL.set {ι : Io} : ∀ {ts : List T} {vs : List Value} {i : Nat} {t : T} {v : Value}, VL ι ts vs → VR ι t v → VL ι (ts.set i t) (vs.set i v)
  | [], vs, i, t, v, h, k => by simp only [VL] at h; simp [h, VL]
  | c :: cs, vs, 0, t, v, h, k => by
    simp only [VL] at h
    obtain ⟨u, rest, rfl, h2, h3⟩ := h
    simp only [List.set_cons_zero, VL]
    exact ⟨v, rest, rfl, k, h3⟩
  | c :: cs, vs, i + 1, t, v, h, k => by
    simp only [VL] at h
    obtain ⟨u, rest, rfl, h2, h3⟩ := h
    simp only [List.set_cons_succ, VL]
    exact ⟨u, _, rfl, h2, VL.set h3 k⟩
end Go.Run
namespace Go.Run
open Go Go.Eng
noncomputable def ER (ι : Io) (x : T × T × Nat) (e : MapEntry) : Prop := VR ι x.1 e.key ∧ VR ι x.2.1 e.val ∧ x.2.2 = e.born
noncomputable def EL (ι : Io) : List (T × T × Nat) → List MapEntry → Prop
  | [], l => l = []
  | x :: xs, l => ∃ e r, l = e :: r ∧ ER ι x e ∧ EL ι xs r
theorem EL.mono {ι ι' : Io} (hs : Sub ι ι') : ∀ {xs : List (T × T × Nat)} {l : List MapEntry}, EL ι xs l → EL ι' xs l
  | [], l, h => h
  | x :: xs, l, ⟨e, r, h1, h2, h3⟩ => ⟨e, r, h1, ⟨VR.mono hs _ h2.1, VR.mono hs _ h2.2.1, h2.2.2⟩, EL.mono hs h3⟩
structure RE (ι : Io) (m : Fm) (e : E) (er : Env) : Prop where
  len : er.length = m.n
  fit : m.n ≤ 2 ^ m.dp
  get : ∀ i, i < m.n → VR ι (En.get (Pa.of m.dp i) e) (er.getD i undef)
theorem RE.mono {ι ι' : Io} (hs : Sub ι ι') {m : Fm} {e : E} {er : Env} (h : RE ι m e er) : RE ι' m e er := ⟨h.len, h.fit, fun i hi => VR.mono hs _ (h.get i hi)⟩
noncomputable def Born (es : List (T × T × Nat)) (clock : Nat) : Prop := (es.map (·.2.2)).Pairwise (· < ·) ∧ ∀ x ∈ es, x.2.2 < clock
noncomputable def SubAt (es es' : List (T × T × Nat)) (j j' : Nat) : Prop := (∃ y, es[j]? = some y ∧ es'[j']? = some y) ∧ (es'.take j').Sublist (es.take j)
noncomputable def VO.am : VO → Bool | .amap _ _ _ => true | _ => false
noncomputable def amAt (s : S) (b : Nat) : Bool := match s.at b with | some o => o.am | none => false
noncomputable def OR (P : Program) (ι : Io) (x : Inf) : VO → Obj → Prop
  | .row cs ct tail, o => ∃ cur, o = .cells cur ct (0, 0) ∧ cs.length ≤ cur.size ∧ VL ι cs (cur.toList.take cs.length) ∧ (tail = false → cur.size = cs.length) ∧
      (tail = true → 0 < szT P ct ∧ cur.size = x.cap * szT P ct ∧ x.cap ≤ maxLen)
  | .ro cs ct, o => ∃ cur fr, o = .cells cur ct fr ∧ cs.length ≤ cur.size ∧ VL ι cs (cur.toList.take cs.length)
  | .map es clock, o => ∃ ents, o = .map ents clock ∧ EL ι es ents.toList ∧ Born es clock
  | .siter s pos, o => o = .stringIter ⟨⟨s⟩⟩ pos
  | .miter mp since seen last, o => ∃ y, ι mp = some y ∧ o = .mapIter (some y.r) since seen.toArray last
  | .loop st pend dp n tm pa asg bd df, o => ∃ fn tr y, ι df = some y ∧ o = .loop { state := st, pending := pend, fn, tmps := tr, params := pa.toArray, assign := asg, body := bd, defers := y.r } ∧ RE ι ⟨dp, n⟩ tm tr.toList
  | .defs true, o => o = .deferred (some [])
  | .defs false, o => o = .deferred none
  | .amap es j del, o => ∃ es' j' e, EL ι es' x.gh.toList ∧ Born es' x.clock ∧ SubAt es es' j j' ∧ x.gh[j']? = some e ∧ e.born = x.w ∧ o = .map (if del then x.gh.eraseIdxIfInBounds j' else x.gh) x.clock
  | .pick mp, o => ∃ y since seen, ι mp = some y ∧ o = .mapIter (some y.r) since seen y.clock ∧ seen.back? = some y.w
theorem OR.mono {P : Program} {ι ι' : Io} (hs : Sub ι ι') {x : Inf} : ∀ {o : VO} {ob : Obj}, OR P ι x o ob → OR P ι' x o ob
  | .row cs ct tail, ob, ⟨cur, h1, h2, h3, h4⟩ => ⟨cur, h1, h2, VL.mono hs _ h3, h4⟩
  | .ro cs ct, ob, ⟨cur, fr, h1, h2, h3⟩ => ⟨cur, fr, h1, h2, VL.mono hs _ h3⟩
  | .map es clock, ob, ⟨ents, h1, h2, h3⟩ => ⟨ents, h1, EL.mono hs h2, h3⟩
  | .siter s pos, ob, h => h
  | .miter mp since seen last, ob, ⟨y, h1, h2⟩ => ⟨y, hs _ _ h1, h2⟩
  | .loop st pend dp n tm pa asg bd df, ob, ⟨fn, tr, y, h1, h2, h3⟩ => ⟨fn, tr, y, hs _ _ h1, h2, h3.mono hs⟩
  | .defs true, ob, h => h
  | .defs false, ob, h => h
  | .amap es j del, ob, ⟨es', j', e, h0, h1⟩ => ⟨es', j', e, EL.mono hs h0, h1⟩
  | .pick mp, ob, ⟨y, since, seen, h1, h2⟩ => ⟨y, since, seen, hs _ _ h1, h2⟩
structure Sim (P : Program) (ι : Io) (s : S) (h : Heap) : Prop where
  fresh : ∀ b x, ι b = some x → b < s.nx ∧ x.r < h.size
  inj : ∀ b c x y, s.at b ≠ none → s.at c ≠ none → ι b = some x → ι c = some y → x.r = y.r → b = c
  obj : ∀ b o, s.at b = some o → ∃ x ob, ι b = some x ∧ h[x.r]? = some ob ∧ OR P ι x o ob
structure Ste (ι : Io) (s : S) (h : Heap) (ι' : Io) (s' : S) (h' : Heap) : Prop where
  sub : Sub ι ι'
  nx : s.nx ≤ s'.nx
  low : s'.low ≤ s.low
  size : h.size ≤ h'.size
  dead : ∀ b, b < s.nx → s.at b = none → s'.at b = none
  grow : ∀ b x, ι' b = some x → ι b = some x ∨ (s.nx ≤ b ∧ (h.size ≤ x.r ∨ ∃ c y, ι c = some y ∧ y.r = x.r ∧ s'.low ≤ c ∧ s.at c ≠ none))
  am : ∀ b x, ι b = some x → amAt s' b = true → amAt s b = true
  old : ∀ r, r < h.size → (∀ b x, ι b = some x → x.r = r → s.at b = none ∨ (b < s'.low ∧ amAt s b = false)) → h'[r]? = h[r]?
theorem Ste.refl (ι : Io) (s : S) (h : Heap) : Ste ι s h ι s h := ⟨fun _ _ h => h, Nat.le_refl _, Nat.le_refl _, Nat.le_refl _, fun _ _ h => h, fun _ _ h => .inl h, fun _ _ _ h => h, fun _ _ _ => rfl⟩
theorem Ste.trans {ι ι1 ι2 : Io} {s s1 s2 : S} {h h1 h2 : Heap} (hf : ∀ b x, ι b = some x → b < s.nx ∧ x.r < h.size) (a : Ste ι s h ι1 s1 h1) (b : Ste ι1 s1 h1 ι2 s2 h2) : Ste ι s h ι2 s2 h2 := by
  have live : ∀ c y, ι c = some y → s1.at c ≠ none → s.at c ≠ none := fun c y hc h1 h2 => h1 (a.dead c (hf c y hc).1 h2)
  refine ⟨fun c x hc => b.sub _ _ (a.sub _ _ hc), Nat.le_trans a.nx b.nx, Nat.le_trans b.low a.low, Nat.le_trans a.size b.size, fun c hc h0 => b.dead c (Nat.lt_of_lt_of_le hc a.nx) (a.dead c hc h0), ?_, fun c x hc h => a.am c x hc (b.am c x (a.sub _ _ hc) h), ?_⟩
  · intro c x hc
    rcases b.grow c x hc with hc | ⟨hn, hc⟩
    · rcases a.grow c x hc with hc | ⟨hn, hc⟩
      · exact .inl hc
      · refine .inr ⟨hn, ?_⟩
        rcases hc with hc | ⟨d, y, h3, h4, h5, h6⟩
        · exact .inl hc
        · exact .inr ⟨d, y, h3, h4, Nat.le_trans b.low h5, h6⟩
    · refine .inr ⟨Nat.le_trans a.nx hn, ?_⟩
      rcases hc with hc | ⟨d, y, h3, h4, h5, h6⟩
      · exact .inl (Nat.le_trans a.size hc)
      · rcases a.grow d y h3 with hd | ⟨_, hd⟩
        · exact .inr ⟨d, y, hd, h4, h5, live d y hd h6⟩
        · rcases hd with hd | ⟨d', y', h6, h7, h8, h9⟩
          · exact .inl (h4 ▸ hd)
          · exact .inr ⟨d', y', h6, h7.trans h4, Nat.le_trans b.low h8, h9⟩
  · intro r hr hb
    have h1 := a.old r hr fun c x hc hx => by
      rcases hb c x hc hx with h0 | ⟨h0, h3⟩
      · exact .inl h0
      · exact .inr ⟨Nat.lt_of_lt_of_le h0 b.low, h3⟩
    rw [b.old r (Nat.lt_of_lt_of_le hr a.size) ?_, h1]
    intro c x hc hx
    rcases a.grow c x hc with hc | ⟨_, hc⟩
    · rcases hb c x hc hx with h0 | ⟨h0, h3⟩
      · exact .inl (a.dead c (hf c x hc).1 h0)
      · refine .inr ⟨h0, ?_⟩
        cases ha : amAt s1 c with
        | false => rfl
        | true => have := a.am c x hc ha; rw [h3] at this; cases this
    · rcases hc with hc | ⟨d, y, h3, h4, h5, h6⟩
      · omega
      · rcases hb d y h3 (h4.trans hx) with h7 | ⟨h7, _⟩
        · exact absurd h7 h6
        · exact absurd h7 (by have := b.low; omega)
end Go.Run
namespace Go.Run
open Go Go.Eng
section steps
variable {P : Program} {ι : Io} {s : S} {h h' : Heap}
noncomputable def Io.put (ι : Io) (b : Nat) (x : Inf) : Io := fun c => if c = b then some x else ι c
theorem Io.put_sub {ι : Io} {b : Nat} {x : Inf} (hb : ι b = none) : Sub ι (ι.put b x) := by
  intro c y hc
  unfold Io.put
  split
  · rename_i h; subst h; rw [hb] at hc; cases hc
  · exact hc
end steps
end Go.Run
namespace Go.Run
open Go Go.Eng
noncomputable def CopyQ (P : Program) (g : FuncId) (k : TypeId) : Prop :=
  ∀ (h : Heap) (r : Nat) (c d : Value), h[r]? = some (.cells #[c, d] k (0, 0)) → c = .pointer none ∨ c = .pointer (some ⟨r, 0, none⟩) →
    CallsH P g #[.pointer (some ⟨r, 0, none⟩)] h (fun v h' => v = .tuple #[] ∧ h' = h.setIfInBounds r (.cells #[.pointer (some ⟨r, 0, none⟩), d] k (0, 0)))
noncomputable def ExtQ (P : Program) (g : FuncId) : X → Prop
  | .no => True
  | .mnz el => ∃ ps t, P.underlying t = some (.slice el) ∧ ∀ (args : Array Value) (w : World), (callFunc g args).run P w = ((Extern.BytealgMakeNoZero.makeNoZero ps #[t] args).run P w).andThen fun v w' => .ok (.value v) w'
  | .cnt => ∀ (args : Array Value) (w : World), (callFunc g args).run P w = ((Extern.BytealgCount.count args).run P w).andThen fun v w' => .ok (.value v) w'
  | .idx => ∀ (args : Array Value) (w : World), (callFunc g args).run P w = ((Extern.BytealgIndexByte.indexByte args).run P w).andThen fun v w' => .ok (.value v) w'
  | .cpy k => CopyQ P g k
  | .tru => ∀ h : Heap, CallsH P g #[] h (fun v h' => v = .bool true ∧ Ext h h')
structure Ok (P : Program) (p : Pr) : Prop where
  ext : ∀ g, ExtQ P g (p.ext g)
  ty : ∀ t ti, p.ty t = some ti → mkTI P t = some { ti with fl := [] } ∧ (ti.fl = [] ∨ flT P t = ti.fl)
  fn : ∀ f fi, p.fn f = some fi → mkFI P f = some fi
  mixed : P.follows .mixedOrders = true
section tables
variable {P : Program} {p : Pr} {ι : Io}
theorem toT_VR {v : Value} {t : T} (h : toT v = some t) : VR ι t v := by
  unfold toT at h
  split at h
  · cases h; simp only [VR]
  · cases h; simp only [VR]
  · cases h; simp only [VR]
  · cases h; simp only [VR]
  · cases h; simp only [VR]
  · cases h; simp only [VR]
  · cases h; simp only [VR]
  · cases h; simp only [VR]
  · rename_i g a b
    split at h
    · rename_i ha hb
      cases h
      have ha' : a = #[] := by apply Array.toList_inj.1; simpa using ha
      have hb' : b = #[] := by apply Array.toList_inj.1; simpa using hb
      subst ha' hb'
      simp only [VR]
      exact ⟨_, _, rfl, by simp [VL], by simp [VL]⟩
    · cases h
  · cases h
theorem mapM_VL : ∀ {vs : List Value} {ts : List T}, vs.mapM toT = some ts → VL ι ts vs
  | [], ts, h => by simp at h; subst h; simp [VL]
  | v :: vs, ts, h => by
    rw [List.mapM_cons] at h
    cases h1 : toT v with
    | none => simp [h1] at h
    | some t =>
      cases h2 : vs.mapM toT with
      | none => simp [h1, h2] at h
      | some r =>
        simp [h1, h2] at h
        subst h
        simp only [VL]
        exact ⟨v, vs, rfl, toT_VR h1, mapM_VL h2⟩
theorem toT1_VR {v : Value} {t : T} (h : toT1 v = some t) : VR ι t v := by
  unfold toT1 at h
  split at h
  · rename_i cs
    obtain ⟨ts, h1, rfl⟩ := Option.map_eq_some_iff.1 h
    simp only [VR]; exact ⟨cs, rfl, mapM_VL h1⟩
  · rename_i cs
    obtain ⟨ts, h1, rfl⟩ := Option.map_eq_some_iff.1 h
    simp only [VR]; exact ⟨cs, rfl, mapM_VL h1⟩
  · exact toT_VR h
structure TF (P : Program) (t : TypeId) (ti : TI) : Prop where
  size : szT P t = ti.size
  info : ∃ i, P.info? t = some i ∧ i.size = ti.size ∧ i.bytes = ti.bytes
  zero : ∃ z, zeroT P t = some z ∧ ∀ ι, VR ι ti.zero z
  und : ∃ d, P.underlying t = some d
  d : ti.d = mkD P t
  okf : ∀ d, P.underlying t = some d → fieldsOk P t d = true
  fl : ti.fl = [] ∨ flT P t = ti.fl
theorem TF.isSome {t : TypeId} {ti : TI} (H : TF P t ti) : (P.info? t).isSome = true := by obtain ⟨i, h, _⟩ := H.info; simp [h]
theorem Ok.tf (H : Ok P p) {t : TypeId} {ti : TI} (h : p.ty t = some ti) : TF P t ti := by
  obtain ⟨h, hfl⟩ := H.ty t ti h
  obtain ⟨z0, b0, y0, d0, f0⟩ := ti
  unfold mkTI at h
  split at h
  · rename_i i d hi hu
    split at h
    case h_2 => cases h
    · rename_i z hz hfo
      cases h
      obtain ⟨v, h1, h2⟩ := Option.bind_eq_some_iff.1 hz
      exact ⟨by simp [szT, hi], ⟨i, hi, rfl, rfl⟩, ⟨v, by simp [zeroT, hi, h1], fun ι => toT1_VR h2⟩, ⟨d, hu⟩, rfl, fun d' hd' => by rw [hu] at hd'; cases hd'; exact hfo, hfl⟩
  · cases h
theorem TF.agg {t : TypeId} {ti : TI} (H : TF P t ti) : aggT P t = some (isAggD ti.d) := by
  obtain ⟨d, hd⟩ := H.und
  rw [H.d]
  unfold aggT mkD
  rw [hd]
  cases d <;> rfl
end tables
section ops
variable {P : Program} {p : Pr} {ι : Io} {s : S} {h : Heap} {m : Fm} {e : E} {er : Env}
noncomputable def Post (P : Program) (ι : Io) (s : S) (h : Heap) (t : T) (s' : S) : Value → Heap → Prop := fun v h' => ∃ ι', Ste ι s h ι' s' h' ∧ Sim P ι' s' h' ∧ VR ι' t v
theorem Post.pure (H : Sim P ι s h) {t : T} {v : Value} (hv : VR ι t v) : Post P ι s h t s v h := ⟨ι, Ste.refl .., H, hv⟩
theorem VL.sub {cs : List T} {cur : List Value} (H : VL ι cs (cur.take cs.length)) {o n : Nat} (hn : o + n ≤ cs.length) : VL ι ((cs.drop o).take n) ((cur.drop o).take n) := by
  have := (H.drop o).take n
  rwa [List.drop_take, List.take_take, Nat.min_eq_left (by omega)] at this
end ops
end Go.Run
namespace Go.Run
open Go Go.Eng
section ops2
variable {P : Program} {p : Pr} {ι : Io} {s : S} {h : Heap} {m : Fm} {e : E} {er : Env}
theorem VL.spl {cs : List T} {cur : List Value} {o : Nat} {vs : List T} {us : List Value} (H : VL ι cs cur) (K : VL ι vs us) (_ : o + vs.length ≤ cs.length) : VL ι (spl cs o vs) (splice cur o us) := by
  unfold Run.spl splice
  rw [K.length]
  exact ((H.take o).append K).append (H.drop _)
end ops2
end Go.Run
namespace Go.Run
open Go Go.Eng
section ops3
variable {P : Program} {p : Pr} {ι : Io} {s s' : S} {h : Heap} {m : Fm} {e : E} {er : Env} {ty : TypeId} {t : T}
end ops3
end Go.Run
namespace Go.Run
open Go Go.Eng
section nums
theorem beqI_eq (a b : Int) : beqI a b = decide (a = b) := by
  cases a <;> cases b <;> simp only [beqI]
  · rename_i a b
    by_cases h : a = b
    · subst h; simp
    · have : Nat.beq a b = false := by cases hb : Nat.beq a b with | false => rfl | true => exact absurd (Nat.eq_of_beq_eq_true hb) h
      simp only [this, Int.ofNat_eq_natCast]; symm; rw [decide_eq_false_iff_not]; omega
  · simp
  · simp
  · rename_i a b
    by_cases h : a = b
    · subst h; simp
    · have : Nat.beq a b = false := by cases hb : Nat.beq a b with | false => rfl | true => exact absurd (Nat.eq_of_beq_eq_true hb) h
      simp [this, h]
theorem beqK_sound {k j : IntKind} (h : beqK k j = true) : k = j := by cases k <;> cases j <;> first | rfl | cases h
theorem beqS_eq : ∀ (s t : List UInt8), beqS s t = decide (s = t)
  | [], [] => by simp [beqS]
  | [], b :: t => by simp [beqS]
  | a :: s, [] => by simp [beqS]
  | a :: s, b :: t => by
    simp only [beqS]
    by_cases h : a = b
    · subst h; simp [beqS_eq s t]
    · have : Nat.beq a.toNat b.toNat = false := by
        cases hb : Nat.beq a.toNat b.toNat with
        | false => rfl
        | true => exact absurd (UInt8.toNat_inj.1 (Nat.eq_of_beq_eq_true hb)) h
      simp [this, h]
end nums
section ops4
variable {P : Program} {p : Pr} {ι : Io} {s s' : S} {h : Heap} {m : Fm} {e : E} {er : Env} {ty : TypeId} {t : T} {K : Value → Heap → Prop}
theorem str_eq (a b : List UInt8) : ((⟨⟨a⟩⟩ : ByteArray) = ⟨⟨b⟩⟩) = (a = b) := by simp
end ops4
end Go.Run
namespace Go.Run
open Go Go.Eng
section ops5
variable {P : Program} {p : Pr} {ι : Io} {s s' : S} {h : Heap} {m : Fm} {e : E} {er : Env} {ty : TypeId} {t : T} {K : Value → Heap → Prop}
theorem TF.slice {u : TypeId} {ti : TI} (H : TF P u ti) {el : TypeId} (hd : ti.d = .slice el) : P.underlying u = some (.slice el) := by
  obtain ⟨d, hu⟩ := H.und
  have := H.d; rw [hd] at this; unfold mkD at this; rw [hu] at this
  cases d <;> simp at this; rw [hu, this]
theorem TF.array {u : TypeId} {ti : TI} (H : TF P u ti) {n : Nat} {el : TypeId} (hd : ti.d = .array n el) : P.underlying u = some (.array n el) := by
  obtain ⟨d, hu⟩ := H.und
  have := H.d; rw [hd] at this; unfold mkD at this; rw [hu] at this
  cases d <;> simp at this; rw [hu, this.1, this.2]
theorem TF.map {u : TypeId} {ti : TI} (H : TF P u ti) {k v : TypeId} (hd : ti.d = .map k v) : P.underlying u = some (.map k v) := by
  obtain ⟨d, hu⟩ := H.und
  have := H.d; rw [hd] at this; unfold mkD at this; rw [hu] at this
  cases d <;> simp at this; rw [hu, this.1, this.2]
theorem TF.int {u : TypeId} {ti : TI} (H : TF P u ti) {k : IntKind} (hd : ti.d = .int k) : P.underlying u = some (.int k) := by
  obtain ⟨d, hu⟩ := H.und
  have := H.d; rw [hd] at this; unfold mkD at this; rw [hu] at this
  cases d <;> simp at this; rw [hu, this]
theorem TF.string {u : TypeId} {ti : TI} (H : TF P u ti) (hd : ti.d = .string) : P.underlying u = some .string := by
  obtain ⟨d, hu⟩ := H.und
  have := H.d; rw [hd] at this; unfold mkD at this; rw [hu] at this
  cases d <;> simp at this; rw [hu]
theorem TF.bool {u : TypeId} {ti : TI} (H : TF P u ti) (hd : ti.d = .bool) : P.underlying u = some .bool := by
  obtain ⟨d, hu⟩ := H.und
  have := H.d; rw [hd] at this; unfold mkD at this; rw [hu] at this
  cases d <;> simp at this; rw [hu]
theorem TF.strct {u : TypeId} {ti : TI} (H : TF P u ti) {fs : List (Nat × TypeId × Nat)} (hd : ti.d = .strct fs) : ∃ gs, P.underlying u = some (.struct gs) ∧ fs = gs.toList.map fun f => (f.offset, f.type, szT P f.type) := by
  obtain ⟨d, hu⟩ := H.und
  have := H.d; rw [hd] at this; unfold mkD at this; rw [hu] at this
  cases d <;> simp at this; exact ⟨_, hu, this⟩
end ops5
end Go.Run
namespace Go.Run
open Go Go.Eng
section ops6
variable {P : Program} {p : Pr} {ι : Io} {s s' : S} {h : Heap} {m : Fm} {e : E} {er : Env} {ty : TypeId} {t : T} {K : Value → Heap → Prop}
end ops6
end Go.Run
namespace Go.Run
open Go Go.Eng
section ops7
variable {P : Program} {p : Pr} {ι : Io} {s s' : S} {h : Heap} {m : Fm} {e : E} {er : Env} {ty : TypeId} {t : T} {K : Value → Heap → Prop}
end ops7
end Go.Run
namespace Go.Run
open Go Go.Eng
section ops8
variable {P : Program} {p : Pr} {ι : Io} {s s' : S} {h : Heap} {m : Fm} {e : E} {er : Env} {ty : TypeId} {t : T} {K : Value → Heap → Prop}
end ops8
end Go.Run
namespace Go.Run
open Go Go.Eng
section ops9
variable {P : Program} {p : Pr} {ι : Io} {s s' : S} {h : Heap} {m : Fm} {e : E} {er : Env} {ty : TypeId} {t : T} {K : Value → Heap → Prop}
end ops9
end Go.Run
namespace Go.Run
open Go Go.Eng
section ops10
variable {P : Program} {p : Pr} {ι : Io} {s s' : S} {h : Heap} {m : Fm} {e : E} {er : Env} {ty : TypeId} {t : T} {K : Value → Heap → Prop}
theorem VL.one {x : T} {vs : List Value} (h : VL ι [x] vs) : ∃ v, vs = [v] ∧ VR ι x v := by
  simp only [VL] at h
  obtain ⟨v, r, rfl, h1, rfl⟩ := h
  exact ⟨v, rfl, h1⟩
end ops10
end Go.Run
namespace Go.Run
open Go Go.Eng
section ops11
variable {P : Program} {p : Pr} {ι : Io} {s s' : S} {h : Heap} {m : Fm} {e : E} {er : Env} {ty : TypeId} {t : T} {K : Value → Heap → Prop}
end ops11
end Go.Run
namespace Go.Run
open Go Go.Eng
section ops12
variable {P : Program} {p : Pr} {ι : Io} {s s' : S} {h : Heap} {m : Fm} {e : E} {er : Env} {ty : TypeId} {t : T} {K : Value → Heap → Prop}
theorem opn {op : BinOp} {b : Bool} (hf : (match op with | .eql => some (T.bool b) | .neq => some (T.bool (!b)) | _ => none) = some t) : (op = .eql ∨ op = .neq) ∧ t = .bool (if op = .eql then b else !b) := by
  cases op <;> simp at hf <;> subst hf <;> simp
end ops12
end Go.Run
namespace Go.Run
open Go Go.Eng
section ops13
variable {P : Program} {p : Pr} {ι : Io} {s s' : S} {h : Heap} {m : Fm} {e : E} {er : Env} {ty : TypeId} {t : T} {K : Value → Heap → Prop}
end ops13
end Go.Run
namespace Go.Run
open Go Go.Eng
section ops14
variable {P : Program} {p : Pr} {ι : Io} {s s' : S} {h : Heap} {m : Fm} {e : E} {er : Env} {ty : TypeId} {t : T} {K : Value → Heap → Prop}
end ops14
end Go.Run
namespace Go.Run
open Go Go.Eng
section ops15
variable {P : Program} {p : Pr} {ι : Io} {s s' : S} {h : Heap} {m : Fm} {e : E} {er : Env} {ty : TypeId} {t : T} {K : Value → Heap → Prop}
noncomputable def OV (ι : Io) : Option T → Option Value → Prop
  | none, v => v = none
  | some t, v => ∃ u, v = some u ∧ VR ι t u
theorem map_none {x : Option Operand} (h : x.map (ev er) = none) : x = none := by cases x <;> simp_all
theorem map_some {x : Option Operand} {v : Value} (h : x.map (ev er) = some v) : ∃ o, x = some o ∧ ev er o = v := by cases x <;> simp_all
end ops15
end Go.Run
namespace Go.Run
open Go Go.Eng
section ops16
variable {P : Program} {p : Pr} {ι : Io} {s s' : S} {h : Heap} {m : Fm} {e : E} {er : Env} {ty : TypeId} {t : T} {K : Value → Heap → Prop}
theorem scT_plain {u : TypeId} {c : Sc} (h : scT P u = some c) : P.plainKey u = true := by
  unfold scT at h
  unfold Program.plainKey
  split at h <;> simp_all
theorem bytes_beq' (a b : List UInt8) : ((⟨⟨a⟩⟩ : ByteArray) == ⟨⟨b⟩⟩) = beqS a b := by
  rw [beqS_eq, Bool.eq_iff_iff, MapKept.bytes_beq, str_eq, decide_eq_true_iff]
theorem int_beq (a b : Int) : (a == b) = beqI a b := by
  rw [beqI_eq, Bool.eq_iff_iff, beq_iff_eq, decide_eq_true_iff]
theorem sc_run {c : Sc} {u : TypeId} {x y : T} {v w : Value} {r : Bool} (hu : scT P u = some c) (hv : VR ι x v) (hw : VR ι y w) (he : scEq c x y = some r) (d : Nat) (W : World) : (Op.equalIn (d + 1) u v w).run P W = .ok r W := by
  unfold scEq at he
  unfold scT at hu
  split at he
  · split at hu <;> cases hu
    rename_i q hq
    split at he
    · rename_i hk
      cases he
      simp only [VR] at hv hw
      subst hv hw
      obtain rfl := beqK_sound hk
      simp [Op.equalIn, run_underlying hq, int_beq]
    · cases he
  · split at hu <;> cases hu
    rename_i hq
    cases he
    simp only [VR] at hv hw
    subst hv hw
    simp [Op.equalIn, run_underlying hq]
  · split at hu <;> cases hu
    rename_i hq
    cases he
    simp only [VR] at hv hw
    subst hv hw
    simp [Op.equalIn, run_underlying hq, bytes_beq']
  · cases he
theorem sc_same {c : Sc} {x y : T} {v w : Value} (hv : VR ι x v) (hw : VR ι y w) (he : scEq c x y = some true) : v = w := by
  unfold scEq at he
  split at he
  · split at he
    · rename_i hk
      simp only [VR] at hv hw
      obtain rfl := beqK_sound hk
      rw [beqI_eq] at he
      simp only [Option.some.injEq, decide_eq_true_iff] at he
      rw [hv, hw, he]
    · cases he
  · simp only [VR] at hv hw
    simp only [Option.some.injEq, beq_iff_eq] at he
    rw [hv, hw, he]
  · simp only [VR] at hv hw
    rw [beqS_eq] at he
    simp only [Option.some.injEq, decide_eq_true_iff] at he
    rw [hv, hw, he]
  · cases he
theorem VL.cons' {c : T} {cs : List T} {vs : List Value} (h : VL ι (c :: cs) vs) : ∃ v r, vs = v :: r ∧ VR ι c v ∧ VL ι cs r := by simpa only [VL] using h
theorem drop_cons {α : Type} {l : List α} {i : Nat} {v : α} {r : List α} (h : l.drop i = v :: r) : l[i]? = some v ∧ l.drop (i + 1) = r := by
  have h1 : (l.drop i)[0]? = some v := by rw [h]; rfl
  rw [List.getElem?_drop] at h1
  refine ⟨by simpa using h1, ?_⟩
  have h2 : (l.drop i).drop 1 = r := by rw [h]; rfl
  rw [List.drop_drop] at h2
  exact h2
theorem beqF_fields {xs ys : Array Value} (d : Nat) (W : World) : ∀ {fs : List Field} {i : Nat} {sc : List Sc} {cs ds : List T} {r : Bool}, flF P fs i = some sc → VL ι cs (xs.toList.drop i) → VL ι ds (ys.toList.drop i) → beqF sc cs ds = some r →
    (Op.eqFields (d + 1) xs ys fs).run P W = .ok r W
  | [], i, sc, cs, ds, r, hf, hc, hd, hb => by
    simp only [flF, Option.some.injEq] at hf; subst hf
    cases cs <;> cases ds <;> simp only [beqF, Option.some.injEq, reduceCtorEq] at hb
    subst hb
    simp [Op.eqFields]
  | f :: fs, i, sc, cs, ds, r, hf, hc, hd, hb => by
    simp only [flF] at hf
    split at hf
    · rename_i c rest h1 h2 h3
      cases hf
      simp only [Bool.and_eq_true, bne_iff_ne, ne_eq] at h1
      obtain ⟨h1, h4⟩ := h1
      have h4 := Nat.eq_of_beq_eq_true h4
      cases cs with
      | nil => simp [beqF] at hb
      | cons a cs =>
        cases ds with
        | nil => simp [beqF] at hb
        | cons b ds =>
          obtain ⟨v, vr, q1, q2, q3⟩ := hc.cons'
          obtain ⟨w, wr, q4, q5, q6⟩ := hd.cons'
          obtain ⟨q1, q7⟩ := drop_cons q1
          obtain ⟨q4, q8⟩ := drop_cons q4
          rw [← q7] at q3
          rw [← q8] at q6
          have p1 := run_part_plain (P := P) W (scT_plain h2) (xs := xs) (off := f.offset) (v := v) (by rw [h4]; simpa using q1)
          have p2 := run_part_plain (P := P) W (scT_plain h2) (xs := ys) (off := f.offset) (v := w) (by rw [h4]; simpa using q4)
          simp only [beqF] at hb
          split at hb
          · rename_i he
            have p3 := sc_run h2 q2 q5 he d W
            have ih := beqF_fields d W h3 q3 q6 hb
            simp only [Op.eqFields, h1, ne_eq, not_false_eq_true, if_true, Sem.run_bind, p1, p2, p3, Result.andThen_ok]
            simpa using ih
          · rename_i he
            cases hb
            have p3 := sc_run h2 q2 q5 he d W
            simp only [Op.eqFields, h1, ne_eq, not_false_eq_true, if_true, Sem.run_bind, p1, p2, p3, Result.andThen_ok]
            simp
          · cases hb
    · cases hf
theorem beqF_items {xs ys : Array Value} {el : TypeId} {c : Sc} (hel : scT P el = some c) (d : Nat) (W : World) : ∀ {n i : Nat} {cs ds : List T} {r : Bool}, VL ι cs (xs.toList.drop i) → VL ι ds (ys.toList.drop i) → beqF (List.replicate n c) cs ds = some r →
    (Op.eqItems (d + 1) el 1 xs ys (List.range' i n)).run P W = .ok r W
  | 0, i, cs, ds, r, hc, hd, hb => by
    cases cs <;> cases ds <;> simp only [List.replicate_zero, beqF, Option.some.injEq, reduceCtorEq] at hb
    subst hb
    simp [Op.eqItems]
  | n + 1, i, cs, ds, r, hc, hd, hb => by
    rw [List.replicate_succ] at hb
    cases cs with
    | nil => simp [beqF] at hb
    | cons a cs =>
      cases ds with
      | nil => simp [beqF] at hb
      | cons b ds =>
        obtain ⟨v, vr, q1, q2, q3⟩ := hc.cons'
        obtain ⟨w, wr, q4, q5, q6⟩ := hd.cons'
        obtain ⟨q1, q7⟩ := drop_cons q1
        obtain ⟨q4, q8⟩ := drop_cons q4
        rw [← q7] at q3
        rw [← q8] at q6
        have p1 := run_part_plain (P := P) W (scT_plain hel) (xs := xs) (off := i * 1) (v := v) (by simpa using q1)
        have p2 := run_part_plain (P := P) W (scT_plain hel) (xs := ys) (off := i * 1) (v := w) (by simpa using q4)
        simp only [beqF] at hb
        rw [List.range'_succ]
        split at hb
        · rename_i he
          have p3 := sc_run hel q2 q5 he d W
          have ih := beqF_items hel d W q3 q6 hb
          simp only [Op.eqItems, Sem.run_bind, p1, p2, p3, Result.andThen_ok]
          simpa using ih
        · rename_i he
          cases hb
          have p3 := sc_run hel q2 q5 he d W
          simp only [Op.eqItems, Sem.run_bind, p1, p2, p3, Result.andThen_ok]
          simp
        · cases hb
theorem beqF_same : ∀ {sc : List Sc} {cs ds : List T} {vs ws : List Value}, VL ι cs vs → VL ι ds ws → beqF sc cs ds = some true → vs = ws
  | [], cs, ds, vs, ws, hc, hd, hb => by
    cases cs <;> cases ds <;> simp only [beqF, Option.some.injEq, reduceCtorEq] at hb
    simp only [VL] at hc hd
    rw [hc, hd]
  | c :: sc, cs, ds, vs, ws, hc, hd, hb => by
    cases cs with
    | nil => simp [beqF] at hb
    | cons a cs =>
      cases ds with
      | nil => simp [beqF] at hb
      | cons b ds =>
        obtain ⟨v, vr, rfl, q2, q3⟩ := hc.cons'
        obtain ⟨w, wr, rfl, q5, q6⟩ := hd.cons'
        simp only [beqF] at hb
        split at hb
        · rename_i he
          rw [sc_same q2 q5 he, beqF_same q3 q6 hb]
        · cases hb
        · cases hb
theorem equal_d (u : TypeId) (x y : Value) : ∃ d, Op.equal u x y = Op.equalIn (d + 2) u x y := ⟨9998, rfl⟩
theorem eqAgg_run {u : TypeId} {ti : TI} (tf : TF P u ti) {x y : T} {v w : Value} {r : Bool} (hv : VR ι x v) (hw : VR ι y w) (he : eqAgg ti x y = some r) (W : World) :
    (Op.equal u v w).run P W = .ok r W ∧ (∃ a b, v = .agg a ∧ w = .agg b) ∧ P.eqGuardType P.depth u = false ∧ (r = true → v = w) := by
  unfold eqAgg at he
  split at he
  · split at he
    · cases he
    · rename_i a b q c fl hfl
      simp only [VR] at hv hw
      obtain ⟨xs, rfl, hx⟩ := hv
      obtain ⟨ys, rfl, hy⟩ := hw
      have hf := tf.fl
      rw [hfl] at hf
      have hf : flT P u = c :: fl := by rcases hf with hf | hf; cases hf; exact hf
      unfold flT at hf
      split at hf
      · cases hf
      · rename_i hst
        simp only [Bool.or_eq_false_iff] at hst
        obtain ⟨d, hd⟩ := equal_d u (.agg xs) (.agg ys)
        refine ⟨?_, ⟨_, _, rfl, rfl⟩, hst.2, ?_⟩
        · rw [hd]
          split at hf
          · rename_i fs hu
            split at hf
            · rename_i r' hr
              subst hf
              rw [run_equalIn_struct W (d + 1) u xs ys (by simp [Program.fieldsOf, hu]) hst.1]
              have hfo : P.fieldsOf u = fs := by simp [Program.fieldsOf, hu]
              rw [hfo]
              exact beqF_fields d W hr (by simpa using hx) (by simpa using hy) he
            · cases hf
          · rename_i n el hu
            split at hf
            · rename_i c' hc hs
              have hs := Nat.eq_of_beq_eq_true hs
              have hi : ∃ i, P.info? el = some i := by
                unfold szT at hs
                cases hi : P.info? el with
                | none => simp [hi] at hs
                | some i => exact ⟨i, rfl⟩
              obtain ⟨i, hi⟩ := hi
              have hco : P.cellsOf el = 1 := by rw [← hs]; simp [szT, Program.cellsOf, hi]
              rw [run_equalIn_array W (d + 1) xs ys hu hi, hco, List.range_eq_range']
              rw [← hf] at he
              exact beqF_items hc d W (by simpa using hx) (by simpa using hy) he
            · cases hf
          · cases hf
        · intro hr
          subst hr
          have := beqF_same hx hy he
          rw [Array.toList_inj.1 this]
  · cases he
theorem TF.ptr {u : TypeId} {ti : TI} (H : TF P u ti) {el : TypeId} (hd : ti.d = .ptr el) : P.underlying u = some (.pointer el) := by
  obtain ⟨d, hu⟩ := H.und
  have := H.d; rw [hd] at this; unfold mkD at this; rw [hu] at this
  cases d <;> simp at this; rw [hu, this]
theorem TF.func {u : TypeId} {ti : TI} (H : TF P u ti) (hd : ti.d = .func) : ∃ a b c, P.underlying u = some (.func a b c) := by
  obtain ⟨d, hu⟩ := H.und
  have := H.d; rw [hd] at this; unfold mkD at this; rw [hu] at this
  cases d <;> simp at this; exact ⟨_, _, _, hu⟩
theorem TF.iface {u : TypeId} {ti : TI} (H : TF P u ti) (hd : ti.d = .iface) : ∃ a, P.underlying u = some (.interface a) := by
  obtain ⟨d, hu⟩ := H.und
  have := H.d; rw [hd] at this; unfold mkD at this; rw [hu] at this
  cases d <;> simp at this; exact ⟨_, hu⟩
end ops16
end Go.Run
namespace Go.Run
open Go Go.Eng
section maps
variable {P : Program} {p : Pr} {ι : Io} {s s' : S} {h : Heap} {m : Fm} {e : E} {er : Env} {ty : TypeId} {t : T} {K : Value → Heap → Prop}
theorem EL.cons' {x : Ent} {xs : List Ent} {l : List MapEntry} (h : EL ι (x :: xs) l) : ∃ e r, l = e :: r ∧ ER ι x e ∧ EL ι xs r := h
theorem EL.length : ∀ {xs : List Ent} {l : List MapEntry}, EL ι xs l → l.length = xs.length
  | [], l, h => by have h : l = [] := h; simp [h]
  | x :: xs, l, h => by obtain ⟨e, r, rfl, _, h3⟩ := h.cons'; simp [EL.length h3]
theorem EL.get : ∀ {xs : List Ent} {l : List MapEntry} {j : Nat} {x : Ent}, EL ι xs l → xs[j]? = some x → ∃ e, l[j]? = some e ∧ ER ι x e
  | [], l, j, x, h, k => by simp at k
  | y :: xs, l, 0, x, h, k => by obtain ⟨e, r, rfl, h2, h3⟩ := h.cons'; simp at k; subst k; exact ⟨e, rfl, h2⟩
  | y :: xs, l, j + 1, x, h, k => by obtain ⟨e, r, rfl, h2, h3⟩ := h.cons'; simp at k; simpa using EL.get h3 k
theorem EL.append : ∀ {xs ys : List Ent} {l k : List MapEntry}, EL ι xs l → EL ι ys k → EL ι (xs ++ ys) (l ++ k)
  | [], ys, l, k, h, q => by have h : l = [] := h; simpa [h] using q
  | x :: xs, ys, l, k, h, q => by obtain ⟨e, r, rfl, h2, h3⟩ := h.cons'; exact ⟨e, r ++ k, rfl, h2, EL.append h3 q⟩
theorem EL.mod {f : Ent → Ent} {g : MapEntry → MapEntry} (hfg : ∀ x e, ER ι x e → ER ι (f x) (g e)) : ∀ {xs : List Ent} {l : List MapEntry} {j : Nat}, EL ι xs l → EL ι (modE f xs j) (l.modify j g)
  | [], l, j, h => by have h : l = [] := h; subst h; cases j <;> exact rfl
  | x :: xs, l, 0, h => by obtain ⟨e, r, rfl, h2, h3⟩ := h.cons'; exact ⟨g e, r, rfl, hfg _ _ h2, h3⟩
  | x :: xs, l, j + 1, h => by
    obtain ⟨e, r, rfl, h2, h3⟩ := h.cons'
    rw [List.modify_succ_cons]
    exact ⟨e, r.modify j g, rfl, h2, EL.mod hfg h3⟩
theorem EL.del : ∀ {xs : List Ent} {l : List MapEntry} {j : Nat}, EL ι xs l → EL ι (delE xs j) (l.eraseIdx j)
  | [], l, j, h => by have h : l = [] := h; subst h; exact rfl
  | x :: xs, l, 0, h => by obtain ⟨e, r, rfl, h2, h3⟩ := h.cons'; exact h3
  | x :: xs, l, j + 1, h => by obtain ⟨e, r, rfl, h2, h3⟩ := h.cons'; exact ⟨e, r.eraseIdx j, rfl, h2, EL.del h3⟩
theorem modE_born {f : Ent → Ent} (hf : ∀ x, (f x).2.2 = x.2.2) : ∀ (xs : List Ent) (j : Nat), (modE f xs j).map (·.2.2) = xs.map (·.2.2)
  | [], j => rfl
  | x :: xs, 0 => by simp [modE, hf]
  | x :: xs, j + 1 => by simp [modE, modE_born hf xs j]
theorem delE_sub : ∀ (xs : List Ent) (j : Nat), (delE xs j).Sublist xs
  | [], j => .slnil
  | x :: xs, 0 => List.sublist_cons_self x xs
  | x :: xs, j + 1 => (delE_sub xs j).cons_cons x
theorem born_iff {es : List Ent} {c : Nat} : Born es c ↔ (es.map (·.2.2)).Pairwise (· < ·) ∧ ∀ w ∈ es.map (·.2.2), w < c := by
  unfold Born
  constructor
  · rintro ⟨a, b⟩
    refine ⟨a, fun w hw => ?_⟩
    obtain ⟨x, hx, rfl⟩ := List.mem_map.1 hw
    exact b x hx
  · rintro ⟨a, b⟩
    exact ⟨a, fun x hx => b _ (List.mem_map.2 ⟨x, hx, rfl⟩)⟩
theorem Born.mod {f : Ent → Ent} (hf : ∀ x, (f x).2.2 = x.2.2) {es : List Ent} {c j : Nat} (hb : Born es c) : Born (modE f es j) c := by
  rw [born_iff] at *
  rw [modE_born hf]
  exact hb
theorem Born.del {es : List Ent} {c j : Nat} (hb : Born es c) : Born (delE es j) c := by
  have hs := delE_sub es j
  exact ⟨List.Pairwise.sublist (hs.map _) hb.1, fun x hx => hb.2 x (hs.subset hx)⟩
theorem Born.push {es : List Ent} {c : Nat} {k v : T} (hb : Born es c) : Born (es ++ [(k, v, c)]) (c + 1) := by
  rw [born_iff] at *
  simp only [List.map_append, List.map_cons, List.map_nil]
  refine ⟨?_, ?_⟩
  · rw [List.pairwise_append]
    refine ⟨hb.1, by simp, fun a ha b hb' => ?_⟩
    simp only [List.mem_singleton] at hb'
    subst hb'
    exact hb.2 a ha
  · intro w hw
    simp only [List.mem_append, List.mem_singleton] at hw
    rcases hw with hw | rfl
    · have := hb.2 w hw; omega
    · omega
noncomputable def FR (l : List MapEntry) (i : Nat) (v : Value) : Option Nat → Option (Nat × Value) → Prop
  | none, r => r = none
  | some j, r => ∃ e, l[j]? = some e ∧ e.key = v ∧ r = some (i + j, e.val)
theorem FR.step {l : List MapEntry} {e : MapEntry} {i : Nat} {v : Value} {o : Option Nat} {r : Option (Nat × Value)} (H : FR l (i + 1) v o r) : FR (e :: l) i v (o.map (· + 1)) r := by
  cases o with
  | none => exact H
  | some j =>
    obtain ⟨e', h1, h2, h3⟩ := H
    exact ⟨e', by simpa using h1, h2, by rw [h3]; simp; omega⟩
theorem check_sc {u : TypeId} {c : Sc} (hu : scT P u = some c) (em : Bool) (n : Nat) (v : Value) (W : World) : (Instr.checkKey em (n + 1) u v).run P W = .ok () W := by
  unfold scT at hu
  split at hu
  · rename_i q hq; simp [Instr.checkKey, run_underlying hq]
  · rename_i hq; simp [Instr.checkKey, run_underlying hq]
  · rename_i hq; simp [Instr.checkKey, run_underlying hq]
  · cases hu
end maps
end Go.Run
namespace Go.Run
open Go Go.Eng
section maps2
variable {P : Program} {p : Pr} {ι : Io} {s s' : S} {h : Heap} {m : Fm} {e : E} {er : Env} {ty : TypeId} {t : T} {K : Value → Heap → Prop}
theorem beqF_len : ∀ {sc : List Sc} {cs ds : List T}, beqF sc cs ds = some true → cs.length = sc.length
  | [], cs, ds, hb => by cases cs <;> cases ds <;> simp_all [beqF]
  | c :: sc, cs, ds, hb => by
    cases cs with
    | nil => simp [beqF] at hb
    | cons a cs =>
      cases ds with
      | nil => simp [beqF] at hb
      | cons b ds =>
        simp only [beqF] at hb
        split at hb
        · simp [beqF_len hb]
        · cases hb
        · cases hb
theorem flF_each {L : List Value} : ∀ {fs : List Field} {i : Nat} {sc : List Sc}, flF P fs i = some sc → i + sc.length ≤ L.length → ∀ f ∈ fs, f.name ≠ "_" ∧ ∃ v c, L[f.offset]? = some v ∧ scT P f.type = some c
  | [], i, sc, hf, hl, f, hm => by simp at hm
  | g :: fs, i, sc, hf, hl, f, hm => by
    simp only [flF] at hf
    split at hf
    · rename_i c rest h1 h2 h3
      cases hf
      simp only [Bool.and_eq_true, bne_iff_ne, ne_eq] at h1
      simp only [List.length_cons] at hl
      rcases List.mem_cons.1 hm with rfl | hm
      · refine ⟨h1.1, L[f.offset]'(by rw [Nat.eq_of_beq_eq_true h1.2]; omega), c, List.getElem?_eq_getElem _, h2⟩
      · exact flF_each h3 (by omega) f hm
    · cases hf
theorem check_agg {u : TypeId} {ti : TI} (tf : TF P u ti) {x : T} {v : Value} (hv : VR ι x v) (he : eqAgg ti x x = some true) (em : Bool) (n : Nat) (W : World) : (Instr.checkKey em (n + 2) u v).run P W = .ok () W := by
  unfold eqAgg at he
  split at he
  · split at he
    · cases he
    · rename_i a c fl hfl
      simp only [VR] at hv
      obtain ⟨xs, rfl, hx⟩ := hv
      have hlen := beqF_len he
      have hl := hx.length
      have hf := tf.fl
      rw [hfl] at hf
      have hf : flT P u = c :: fl := by rcases hf with hf | hf; cases hf; exact hf
      unfold flT at hf
      split at hf
      · cases hf
      · split at hf
        · rename_i fs hu
          split at hf
          · rename_i r' hr
            subst hf
            have each := flF_each (P := P) (L := xs.toList) hr (by omega)
            rw [Instr.checkKey]
            simp only [Sem.run_bind, run_underlying hu, Result.andThen_ok]
            rw [← Array.forIn_toList]
            clear hr hu
            generalize fs.toList = L at each
            induction L with
            | nil => simp
            | cons f L ih =>
              obtain ⟨hn, v, c', h1, h2⟩ := each f (by simp)
              have p1 := run_part_plain (P := P) W (scT_plain h2) (xs := xs) (off := f.offset) (v := v) (by simpa using h1)
              have p2 := check_sc h2 em n v W
              simp only [List.forIn_cons, Sem.run_bind, hn, ne_eq, not_false_eq_true, if_true, Result.andThen_ok, p1, p2, Sem.run_pure]
              exact ih (fun y hy => each y (by simp [hy]))
          · cases hf
        · rename_i k el hu
          split at hf
          · rename_i c' hc hs
            have hs := Nat.eq_of_beq_eq_true hs
            have hi : ∃ i, P.info? el = some i := by
              unfold szT at hs
              cases hi : P.info? el with
              | none => simp [hi] at hs
              | some i => exact ⟨i, rfl⟩
            obtain ⟨i, hi⟩ := hi
            have hco : P.cellsOf el = 1 := by rw [← hs]; simp [szT, Program.cellsOf, hi]
            have hk : xs.toList.length = k := by rw [hl, hlen, ← hf]; simp
            rw [Instr.checkKey]
            simp only [Sem.run_bind, run_underlying hu, Result.andThen_ok]
            simp only [Std.Legacy.Range.forIn_eq_forIn_range', Std.Legacy.Range.size, Nat.sub_zero, Nat.add_one_sub_one, Nat.div_one]
            have each : ∀ j ∈ List.range' 0 k, ∃ v, xs[j]? = some v := by
              intro j hj
              simp only [List.mem_range'_1] at hj
              have : j < xs.size := by rw [← Array.length_toList]; omega
              exact ⟨xs[j], by simp [this]⟩
            generalize List.range' 0 k = is at each
            clear hu hf hk
            induction is with
            | nil => simp
            | cons j is ih =>
              obtain ⟨v, h1⟩ := each j (by simp)
              have p1 := run_part_plain (P := P) W (scT_plain hc) (xs := xs) (off := j * 1) (v := v) (by simpa using h1)
              have p2 := check_sc hc em n v W
              simp only [List.forIn_cons, Sem.run_bind, run_sizeOf W hi, hco, Result.andThen_ok, p1, p2, Sem.run_pure]
              exact ih (fun y hy => each y (by simp [hy]))
          · cases hf
        · cases hf
  · cases he
end maps2
end Go.Run
end
section
set_option linter.unusedVariables false
set_option linter.unusedSimpArgs false
namespace Go.Run
open Go Go.Eng
section app
variable {P : Program} {p : Pr} {ι : Io} {s s' : S} {h : Heap} {m : Fm} {e : E} {er : Env} {ty : TypeId} {t : T} {K : Value → Heap → Prop}
theorem opSem_skip {o : Op} (hd : noDefer o = true) (h' : Heap) (hk : K undef h')
    (H : ∀ w : World, w.heap = h → ∃ w', (execOp (ev er) { dst := none, op := o, type := ty, pos := "", after := #[], guard := none }).run P w = .ok .skip w' ∧ w'.heap = h' ∧ Eng.Rest w w') : opSem P o ty er h K := by
  unfold opSem
  refine And.intro hd fun w hw => ?_
  obtain ⟨w', h1, h2, h3⟩ := H w hw
  rw [h1]
  exact ⟨h2 ▸ hk, h3⟩
structure Src (P : Program) (ats : Array TypeId) (h : Heap) (size m : Nat) (x : Value) (news : List Value) : Prop where
  ty : ∃ xt d, ats[1]? = some xt ∧ P.underlying xt = some d ∧ ((∃ e, d = .slice e) ∨ d = .string)
  len : ∀ w : World, w.heap = h → (Builtin.lenOf x).run P w = .ok m w
  cells : ∀ w : World, w.heap = h → (Builtin.firstCells size m x).run P w = .ok news.toArray w
  part : news.length = m * size → ∀ n, n ≤ m → ∀ w : World, w.heap = h → (Builtin.firstCells size n x).run P w = .ok (news.take (n * size)).toArray w
theorem ap_room {ats : Array TypeId} {t e : TypeId} {i : TypeInfo} (h0 : ats[0]? = some t) (ht : P.underlying t = some (.slice e)) (hi : P.info? e = some i) {x : Value} {m g off sLen sCap : Nat} {news : List Value} {cur : Array Value} {ct : TypeId}
    (w : World) (hs : Src P ats w.heap i.size m x news) (hg : w.heap[g]? = some (.cells cur ct (0, 0))) (h1 : ∀ u ∈ news, u.oneCell' = true) (hroom : sLen + m ≤ sCap) (hfit : off + sLen * i.size + news.length ≤ cur.size) :
    (Builtin.append_ ats ty #[.slice (some ⟨g, off, none⟩) sLen sCap, x]).run P w = .ok (.slice (some ⟨g, off, none⟩) (sLen + m) sCap) (w.setRow g (splice cur.toList (off + sLen * i.size) news).toArray) := by
  have hst := run_storeCells_at P g (off + sLen * i.size) ct news 0 cur w hg (by simpa using hfit) h1
  simp only [Nat.add_zero] at hst
  have e1 := hs.len w rfl
  have e2 := hs.cells w rfl
  obtain ⟨xt, d, q1, q2, q3⟩ := hs.ty
  have e3 : (⟨g, off, none⟩ : Addr).add (sLen * i.size) = ⟨g, off + sLen * i.size, none⟩ := by unfold Addr.add; split <;> simp_all
  rcases q3 with ⟨el, rfl⟩ | rfl <;>
    simp [Builtin.append_, h0, q1, run_underlying ht, run_underlying q2, sizeOf, typeInfo, hi, e1, hroom, e2, e3, hst, splice]
theorem ap_grow {ats : Array TypeId} {t e : TypeId} {i : TypeInfo} {z : Value} (h0 : ats[0]? = some t) (ht : P.underlying t = some (.slice e)) (hi : P.info? e = some i) (hz : i.zero = some z) {x : Value} {m sLen sCap : Nat} {news olds : List Value} {b : Option Addr}
    (w : World) (hs : Src P ats w.heap i.size m x news) (ho : ∀ w' : World, w'.heap = w.heap → (Builtin.firstCells i.size sLen (.slice b sLen sCap)).run P w' = .ok olds.toArray w') (hgr : sCap < sLen + m) (hby : (sLen + m) * i.bytes ≤ 1000000) (hbn : sLen + m ≤ 1000000) :
    (Builtin.append_ ats ty #[.slice b sLen sCap, x]).run P w =
      .ok (.slice (some ⟨w.heap.size, 0, none⟩) (sLen + m) (grownCap w (sLen + m) sCap e)) (w.drew.alloc (.cells (olds ++ news ++ (Builtin.zeroCells z.cells (grownCap w (sLen + m) sCap e - (sLen + m))).toList).toArray e)) := by
  have hn : ¬ (sLen + m ≤ sCap) := by omega
  have h63' : ¬ (9223372036854775807 < ((sLen : Int) + (m : Int))) := by omega
  have hf := growslice_fits (bytes := i.bytes) hgr (by omega)
  have h48' : ¬ (281474976710656 < Builtin.nextslicecap (sLen + m) sCap * i.bytes) := by omega
  have e1 := hs.len w rfl
  have e2 := hs.cells w.drew rfl
  have e3 := ho w.drew rfl
  obtain ⟨xt, d, q1, q2, q3⟩ := hs.ty
  have key : olds ++ (news ++ (Builtin.zeroCells z.cells (grownCap w (sLen + m) sCap e - (sLen + m))).toList) = olds ++ news ++ (Builtin.zeroCells z.cells (grownCap w (sLen + m) sCap e - (sLen + m))).toList := by simp
  rcases q3 with ⟨el, rfl⟩ | rfl
  · simp [Builtin.append_, h0, q1, run_underlying ht, run_underlying q2, sizeOf, typeInfo, zeroValue, hi, hz, e1, hn, h63', h48', Question.forced, e2, e3, newRow]
    try refine ⟨rfl, ?_⟩
    congr 2
    apply Array.toList_inj.1
    simp [grownCap]
  · simp [Builtin.append_, h0, q1, run_underlying ht, run_underlying q2, sizeOf, typeInfo, zeroValue, hi, hz, e1, hn, h63', h48', Question.forced, e2, e3, newRow]
    try refine ⟨rfl, ?_⟩
    congr 2
    apply Array.toList_inj.1
    simp [grownCap]
theorem ap_none {ats : Array TypeId} {t e : TypeId} {i : TypeInfo} (h0 : ats[0]? = some t) (ht : P.underlying t = some (.slice e)) (hi : P.info? e = some i) {x : Value} {news : List Value}
    (w : World) (hs : Src P ats w.heap i.size 0 x news) : (Builtin.append_ ats ty #[.slice none 0 0, x]).run P w = .ok (.slice none 0 0) w := by
  have e1 := hs.len w rfl
  have e2 := hs.cells w rfl
  obtain ⟨xt, d, q1, q2, q3⟩ := hs.ty
  rcases q3 with ⟨el, rfl⟩ | rfl <;>
    simp [Builtin.append_, h0, q1, run_underlying ht, run_underlying q2, sizeOf, typeInfo, hi, e1, e2]
end app
end Go.Run
namespace Go.Run
open Go Go.Eng
section app2
variable {P : Program} {p : Pr} {ι : Io} {s s' : S} {h : Heap} {m : Fm} {e : E} {er : Env} {ty : TypeId} {t : T} {K : Value → Heap → Prop}
theorem cell_row {w : World} {r o j : Nat} {cur : Array Value} {ct : TypeId} {fr : Nat × Nat} (hg : w.heap[r]? = some (.cells cur ct fr)) {v : Value} (hv : cur[o + j]? = some v) : w.cell? ((⟨r, o, none⟩ : Addr).add j) = some v := by
  have hadd : (⟨r, o, none⟩ : Addr).add j = ⟨r, o + j, none⟩ := by unfold Addr.add; split <;> simp_all
  rw [hadd, cell_of_row w r (o + j) cur ct fr hg]
  exact hv
end app2
end Go.Run
namespace Go.Run
open Go Go.Eng
section app3
variable {P : Program} {p : Pr} {ι : Io} {s s' : S} {h : Heap} {m : Fm} {e : E} {er : Env} {ty : TypeId} {t : T} {K : Value → Heap → Prop}
end app3
end Go.Run
namespace Go.Run
open Go Go.Eng
section blts
variable {P : Program} {p : Pr} {ι : Io} {s s' : S} {h : Heap} {m : Fm} {e : E} {er : Env} {ty : TypeId} {t : T} {K : Value → Heap → Prop}
end blts
end Go.Run
namespace Go.Run
open Go Go.Eng
section maps3
variable {P : Program} {p : Pr} {ι : Io} {s s' : S} {h : Heap} {m : Fm} {e : E} {er : Env} {ty : TypeId} {t : T} {K : Value → Heap → Prop}
theorem erase_toList (es : Array MapEntry) (i : Nat) : (es.eraseIdxIfInBounds i).toList = es.toList.eraseIdx i := by
  unfold Array.eraseIdxIfInBounds
  split
  · simp only [Array.toList_eraseIdx]
  · rename_i h
    rw [List.eraseIdx_of_length_le]
    simpa using h
theorem modify_toList (es : Array MapEntry) (i : Nat) (f : MapEntry → MapEntry) : (es.modify i f).toList = es.toList.modify i f := by
  apply List.ext_getElem?
  intro j
  simp [Array.getElem?_modify, List.getElem?_modify]
end maps3
end Go.Run
namespace Go.Run
open Go Go.Eng
section maps4
variable {P : Program} {p : Pr} {ι : Io} {s s' : S} {h : Heap} {m : Fm} {e : E} {er : Env} {ty : TypeId} {t : T} {K : Value → Heap → Prop}
theorem EL.filter {f : Nat → Bool} {es : List Ent} {l : List MapEntry} (H : EL ι es l) : EL ι (es.filter fun x => f x.2.2) (l.filter fun e => f e.born) := by
  induction es generalizing l with
  | nil => have H : l = [] := H; subst H; exact rfl
  | cons x es ih =>
    obtain ⟨e, l, rfl, h2, h3⟩ := H.cons'
    have hb : x.2.2 = e.born := h2.2.2
    simp only [List.filter_cons, hb]
    split
    · exact ⟨e, _, rfl, h2, ih h3⟩
    · exact ih h3
theorem EL.mem {es : List Ent} {l : List MapEntry} (H : EL ι es l) {e : MapEntry} (he : e ∈ l) : ∃ x ∈ es, ER ι x e := by
  induction es generalizing l with
  | nil => have H : l = [] := H; subst H; cases he
  | cons x es ih =>
    obtain ⟨e', l, rfl, h2, h3⟩ := H.cons'
    rcases List.mem_cons.1 he with rfl | he
    · exact ⟨x, by simp, h2⟩
    · obtain ⟨y, h4, h5⟩ := ih h3 he; exact ⟨y, by simp [h4], h5⟩
end maps4
end Go.Run
namespace Go.Run
open Go Go.Eng
section code
variable {P : Program} {p : Pr} {ι : Io} {s s' : S} {h : Heap} {m : Fm} {e e' : E} {er : Env} {ty : TypeId} {t : T} {K : Value → Heap → Prop} {cf : CallRun}
noncomputable def putT (m : Fm) (e : E) (d : Option Tmp) (v : T) : E := match d with | none => e | some t => En.set (Pa.of m.dp t) v e
theorem RE.set (re : RE ι m e er) {q : Nat} (hq : q < m.n) {v : T} {vv : Value} (hv : VR ι v vv) : RE ι m (En.set (Pa.of m.dp q) v e) (er.set q vv) := by
  refine ⟨by simp [re.len], re.fit, fun i hi => ?_⟩
  have hfit := re.fit
  rw [En.get_set_of (by omega) (by omega)]
  split
  · rename_i hiq
    subst hiq
    have : i < er.length := by rw [re.len]; exact hi
    simpa [List.getD, this] using hv
  · rename_i hiq
    have := re.get i hi
    have h2 : (er.set q vv).getD i undef = er.getD i undef := by
      simp only [List.getD]
      rw [List.getElem?_set_ne (fun h => hiq h.symm)]
    rw [h2]; exact this
theorem RE.put (re : RE ι m e er) {d : Option Tmp} (hd : ∀ q, d = some q → q < m.n) {v : T} {vv : Value} (hv : VR ι v vv) : RE ι m (putT m e d v) (putE er d vv) := by
  cases d with
  | none => exact re
  | some q => exact re.set (hd q rfl) hv
end code
end Go.Run
namespace Go.Run
open Go Go.Eng
section congr
variable {P : Program} {p : Pr} {ι : Io} {s s' : S} {h : Heap} {m : Fm} {e e' : E} {er : Env} {ty : TypeId} {t : T} {K : Value → Heap → Prop} {cf : CallRun}
theorem opTmps_mem {xs : List Operand} {q : Tmp} (h : Operand.tmp q ∈ xs) : q ∈ opTmps xs := by
  induction xs with
  | nil => cases h
  | cons x xs ih =>
    rcases List.mem_cons.1 h with hh | hh
    · subst hh; simp [opTmps]
    · cases x <;> simp [opTmps, ih hh]
noncomputable def Agree (m : Fm) (e e' : E) (xs : List Operand) : Prop := ∀ q ∈ opTmps xs, seeE m e q = seeE m e' q
theorem Agree.opd {xs : List Operand} (H : Agree m e e' xs) {x : Operand} (hx : x ∈ xs) : opd m e x = opd m e' x := by
  cases x with
  | tmp q => simp only [Run.opd, H q (opTmps_mem hx)]
  | _ => rfl
theorem Agree.sub {xs ys : List Operand} (H : Agree m e e' xs) (hs : ∀ y ∈ ys, y ∈ xs) : Agree m e e' ys := by
  intro q hq
  have : Operand.tmp q ∈ ys := by
    clear H hs
    induction ys with
    | nil => cases hq
    | cons y ys ih =>
      cases y <;> simp only [opTmps, List.mem_cons] at hq <;> first
        | (rcases hq with rfl | hq
           · simp
           · simp [ih hq])
        | simp [ih hq]
  exact H q (opTmps_mem (hs _ this))
theorem Agree.opds {xs : List Operand} (H : Agree m e e' xs) : opds m e xs = opds m e' xs := by
  induction xs with
  | nil => rfl
  | cons x xs ih =>
    simp only [Run.opds, H.opd (by simp : x ∈ x :: xs), ih (H.sub fun y hy => by simp [hy])]
theorem Agree.parts {xs : List (Nat × Operand)} (H : Agree m e e' (xs.map (·.2))) : partsT m e xs = partsT m e' xs := by
  induction xs with
  | nil => rfl
  | cons x xs ih =>
    obtain ⟨i, x⟩ := x
    simp only [partsT, H.opd (by simp : x ∈ ((i, x) :: xs).map (·.2)), ih (H.sub fun y hy => by simp at hy ⊢; exact .inr hy)]
theorem Agree.opdO {xs : List Operand} (H : Agree m e e' xs) {x : Option Operand} (hx : ∀ y, x = some y → y ∈ xs) : opdO m e x = opdO m e' x := by
  cases x with
  | none => rfl
  | some x => simp only [Run.opdO, H.opd (hx x rfl)]
theorem Sim.nil (H : Sim P ι s h) (hn : s.nx ≤ 1000000) : Sim P ι sNil h := by
  refine ⟨fun b x hx => ?_, fun b c x y hb => ?_, fun b o hb => ?_⟩
  · have := H.fresh b x hx
    exact ⟨show b < 1000000 by omega, this.2⟩
  · exact absurd (by simp [sNil, S.at, En.get_leaf, ite_eq]) hb
  · simp [sNil, S.at, En.get_leaf, ite_eq] at hb
end congr
end Go.Run
namespace Go.Run
open Go Go.Eng
section allocs
variable {P : Program} {p : Pr} {ι : Io} {s s' : S} {h : Heap} {m : Fm} {e e' : E} {er : Env} {ty : TypeId} {t : T} {K : Value → Heap → Prop}
theorem Sim.add (H : Sim P ι s h) {b : Nat} (hn : ι b = none) (hb : b < s.nx) (h0 : s.at b = none) {obr : Obj} : Sim P (ι.put b ⟨h.size, 0, #[], 0, 0⟩) s (h.push obr) := by
  have hsub := Io.put_sub (x := ⟨h.size, 0, #[], 0, 0⟩) hn
  refine ⟨fun c x hx => ?_, fun c d x y hc hd hx hy hxy => ?_, fun c o hc => ?_⟩
  · unfold Io.put at hx
    split at hx
    · rename_i hcb; cases hx; subst hcb; exact ⟨hb, by simp⟩
    · have := H.fresh c x hx; exact ⟨this.1, by simp; omega⟩
  · unfold Io.put at hx hy
    split at hx
    · rename_i hcb; subst hcb; exact absurd h0 hc
    · split at hy
      · rename_i hdb; subst hdb; exact absurd h0 hd
      · exact H.inj c d x y hc hd hx hy hxy
  · obtain ⟨x, ob, h1, h2, h3⟩ := H.obj c o hc
    refine ⟨x, ob, hsub _ _ h1, ?_, h3.mono hsub⟩
    rw [Array.getElem?_push, if_neg (by have := (H.fresh c x h1).2; omega)]
    exact h2
end allocs
end Go.Run
end
section
set_option linter.unusedVariables false
set_option linter.unusedSimpArgs false
namespace Go.Eng
open Go
theorem Upd.trans {a b c : Heap} {g : Nat} (x : Upd a b g) (y : Upd b c g) : Upd a c g := ⟨y.size.trans x.size, fun i hi => (y.old i hi).trans (x.old i hi)⟩
theorem Upd.refl (a : Heap) (g : Nat) : Upd a a g := ⟨rfl, fun _ _ => rfl⟩
section apps
variable {P : Program} {h0 : Nat} {h : Heap} {er : Env} {ty : TypeId}
structure OwnI (h0 : Nat) (h : Heap) (el : TypeId) (a : Option Addr) (len cap : Nat) (xs : List Int) : Prop where
  ln : len = xs.length
  ok : (a = none ∧ len = 0 ∧ cap = 0) ∨ ∃ g cur, a = some ⟨g, 0, none⟩ ∧ h0 ≤ g ∧ h[g]? = some (.cells cur el (0, 0)) ∧ cap ≤ cur.size ∧ len ≤ cap ∧ cur.toList.take len = ints xs
theorem OwnI.nil (h0 : Nat) (h : Heap) (el : TypeId) : OwnI h0 h el none 0 0 [] := ⟨rfl, .inl ⟨rfl, rfl, rfl⟩⟩
theorem OwnI.ints {el : TypeId} {a : Option Addr} {len cap : Nat} {xs : List Int} (O : OwnI h0 h el a len cap xs) : IntsV h a len xs := by
  refine ⟨O.ln, ?_⟩
  rcases O.ok with ⟨rfl, h1, _⟩ | ⟨g, cur, rfl, h1, h2, h3, h4, h5⟩
  · left
    have := O.ln
    have : xs = [] := List.length_eq_zero_iff.1 (by omega)
    simp [this, Eng.ints]
  · right
    have hl := O.ln
    refine ⟨g, 0, cur, el, (0, 0), rfl, h2, by rw [ints_length]; omega, by rw [ints_length, List.drop_zero, ← hl]; exact h5⟩
theorem OwnI.cap {el : TypeId} {a : Option Addr} {len cap : Nat} {xs : List Int} (O : OwnI h0 h el a len cap xs) : len ≤ cap := by
  rcases O.ok with ⟨_, h1, h2⟩ | ⟨g, cur, _, _, _, _, h4, _⟩ <;> omega
theorem OwnI.keep {el : TypeId} {a : Option Addr} {len cap : Nat} {xs : List Int} (O : OwnI h0 h el a len cap xs) {h' : Heap} (hk : ∀ p, a = some p → h'[p.block]? = h[p.block]?) : OwnI h0 h' el a len cap xs := by
  refine ⟨O.ln, ?_⟩
  rcases O.ok with h1 | ⟨g, cur, rfl, h1, h2, h3⟩
  · exact .inl h1
  · exact .inr ⟨g, cur, rfl, h1, (hk _ rfl).trans h2, h3⟩
theorem OwnI.lt {el : TypeId} {a : Option Addr} {len cap : Nat} {xs : List Int} (O : OwnI h0 h el a len cap xs) {p : Addr} (hp : a = some p) : p.block < h.size ∧ h0 ≤ p.block := by
  rcases O.ok with ⟨h1, _⟩ | ⟨g, cur, h1, h2, h3, h4⟩
  · rw [h1] at hp; cases hp
  · rw [h1] at hp; cases hp; exact ⟨lt_of_get h3, h2⟩
theorem OwnI.ext {el : TypeId} {a : Option Addr} {len cap : Nat} {xs : List Int} (O : OwnI h0 h el a len cap xs) {h' : Heap} (x : Ext h h') : OwnI h0 h' el a len cap xs := O.keep fun p hp => x.old _ (O.lt hp).1
structure App (h h' : Heap) (a a' : Option Addr) : Prop where
  size : h.size ≤ h'.size
  old : ∀ c, c < h.size → (∀ p, a = some p → p.block ≠ c) → h'[c]? = h[c]?
  to : ∀ p, a' = some p → (∃ q, a = some q ∧ q.block = p.block) ∨ h.size ≤ p.block
theorem App.ext {el : TypeId} {a a' : Option Addr} {len cap : Nat} {xs : List Int} {h' : Heap} (A : App h h' a a') (O : OwnI h0 h el a len cap xs) {h1 : Heap} (x : Ext h1 h) (hl : h1.size ≤ h0) : Ext h1 h' :=
  ⟨Nat.le_trans x.size A.size, fun c hc => (A.old c (Nat.lt_of_lt_of_le hc x.size) fun p hp heq => by have := (O.lt hp).2; omega).trans (x.old c hc)⟩
theorem firstC {w : World} {b : Option Addr} {m c k : Nat} {ys : List Int} (H : IntsV w.heap b m ys) (hk : k ≤ m) : (Builtin.firstCells 1 k (.slice b m c)).run P w = .ok ((Eng.ints ys).take k).toArray w := by
  cases b with
  | none =>
    rcases H.row with h1 | ⟨g, off, cur, ct, fr, h1, _⟩
    · have : ys = [] := by simpa [Eng.ints] using h1
      have hl := H.len
      rw [this] at hl
      obtain rfl : k = 0 := by simp at hl; omega
      simp [Builtin.firstCells]
    · cases h1
  | some a =>
    rcases H.row with h1 | ⟨g, off, cur, ct, fr, h1, h2, h3, h4⟩
    · have hy : ys = [] := by simpa [Eng.ints] using h1
      have hl := H.len
      rw [hy] at hl
      obtain rfl : k = 0 := by simp at hl; omega
      have := run_firstCells_some (P := P) w 1 0 a m c [] (by simp) (by simp)
      simpa using this
    · cases h1
      have hl := H.len
      refine run_firstCells_some w 1 k ⟨g, off, none⟩ m c _ (by rw [List.length_take, ints_length]; omega) fun j u hu => ?_
      rw [← h4, List.getElem?_take] at hu
      split at hu
      · rw [List.getElem?_take] at hu
        split at hu
        · rw [List.getElem?_drop] at hu
          exact Go.Run.cell_row h2 (by simpa using hu)
        · cases hu
      · cases hu
theorem ints_src {ats : Array TypeId} {t2 e2 : TypeId} (h1 : ats[1]? = some t2) (hu : P.underlying t2 = some (.slice e2)) {b : Option Addr} {m c : Nat} {ys : List Int} (H : IntsV h b m ys) : Go.Run.Src P ats h 1 m (.slice b m c) (Eng.ints ys) := by
  have hl := H.len
  refine ⟨⟨t2, _, h1, hu, .inl ⟨e2, rfl⟩⟩, fun w _ => by simp [Builtin.lenOf], fun w hw => ?_, fun _ n hn w hw => ?_⟩
  · subst hw
    have := firstC (P := P) (c := c) H (Nat.le_refl m)
    rwa [List.take_of_length_le (by rw [ints_length]; omega)] at this
  · subst hw
    have := firstC (P := P) (c := c) H hn
    rwa [Nat.mul_one]
theorem append_ints {t t2 el e2 : TypeId} {i : TypeInfo} {z : Int} (hu : P.underlying t = some (.slice el)) (hu2 : P.underlying t2 = some (.slice e2)) (hi : P.info? el = some i) (hsz : i.size = 1) (hby : i.bytes ≤ 8) (hz : i.zero = some (.int .i64 z))
    {x y : Operand} {a b : Option Addr} {len cap m c : Nat} {xs ys : List Int} {K : Value → Heap → Prop} (hx : ev er x = .slice a len cap) (hy : ev er y = .slice b m c) (O : OwnI h0 h el a len cap xs) (h0h : h0 ≤ h.size) (I : IntsV h b m ys) (hb : len + m ≤ 100000)
    (H : ∀ a' cap' h', OwnI h0 h' el a' (len + m) cap' (xs ++ ys) → App h h' a a' → K (.slice a' (len + m) cap') h') : opSem P (.call ⟨.builtin .append, #[x, y], #[t, t2]⟩) ty er h K := by
  unfold opSem
  refine And.intro rfl fun w hw => ?_
  subst hw
  have hlen : (xs ++ ys).length = len + m := by rw [List.length_append, ← O.ln, ← I.len]
  have hs := ints_src (P := P) (ats := #[t, t2]) (c := c) rfl hu2 I
  have hargs : #[x, y].map (ev er) = #[.slice a len cap, .slice b m c] := by simp [hx, hy]
  have key : ∀ v w', (Builtin.append_ #[t, t2] ty #[.slice a len cap, .slice b m c]).run P w = .ok v w' → Rest w w' → K v w'.heap →
      semPost P w K ((execOp (ev er) { dst := none, op := .call ⟨.builtin .append, #[x, y], #[t, t2]⟩, type := ty, pos := "", after := #[], guard := none }).run P w) := by
    intro v w' h1 h2 h3
    have : (execOp (ev er) { dst := none, op := .call ⟨.builtin .append, #[x, y], #[t, t2]⟩, type := ty, pos := "", after := #[], guard := none }).run P w = .ok (.value v) w' := by
      simp only [execOp, resolve, invoke, builtin, Sem.run_bind, Sem.run_pure, Result.andThen_ok, hargs, h1]
    rw [this]
    exact ⟨h3, h2⟩
  have grow : cap < len + m → semPost P w K ((execOp (ev er) { dst := none, op := .call ⟨.builtin .append, #[x, y], #[t, t2]⟩, type := ty, pos := "", after := #[], guard := none }).run P w) := by
    intro hgr
    have g1 := Go.Run.ap_grow (P := P) (ty := ty) (ats := #[t, t2]) (z := .int .i64 z) (sLen := len) (sCap := cap) (b := a) (olds := Eng.ints xs) rfl hu hi hz w (by rw [hsz]; exact hs)
      (fun w' hw' => by
        have hI := O.ints
        rw [← hw'] at hI
        have := firstC (P := P) (c := cap) hI (Nat.le_refl len)
        rw [List.take_of_length_le (by rw [ints_length, ← O.ln]; omega)] at this
        rw [hsz]
        exact this) hgr (by have : (len + m) * i.bytes ≤ 100000 * 8 := Nat.mul_le_mul hb hby
                            omega) (by omega)
    refine key _ _ g1 ⟨rfl, rfl, rfl⟩ (H _ _ _ ⟨hlen.symm, .inr ⟨w.heap.size, _, rfl, h0h, push_new, ?_, grownCap_ge w (len + m) cap el, ?_⟩⟩ ⟨by simp, fun c hc _ => ?_, fun p hp => ?_⟩)
    · have := grownCap_ge w (len + m) cap el
      have hzl : (Builtin.zeroCells (Value.int .i64 z).cells (grownCap w (len + m) cap el - (len + m))).size = grownCap w (len + m) cap el - (len + m) := by
        simp [Builtin.zeroCells, Value.cells]
      simp only [List.size_toArray, List.length_append, ints_length, Array.length_toList, hzl, ← O.ln, ← I.len]
      omega
    · rw [List.toList_toArray, List.append_assoc, ← List.append_assoc, List.take_append_of_le_length]
      · rw [List.take_of_length_le]
        · simp [Eng.ints]
        · rw [List.length_append, ints_length, ints_length, ← O.ln, ← I.len]; omega
      · rw [List.length_append, ints_length, ints_length, ← O.ln, ← I.len]; omega
    · show (w.heap.push _)[c]? = _
      rw [push_get, if_neg (by omega)]
    · cases hp
      exact .inr (Nat.le_refl _)
  rcases O.ok with ⟨rfl, rfl, rfl⟩ | ⟨g, cur, rfl, q1, q2, q3, q4, q5⟩
  · by_cases hm : m = 0
    · subst hm
      have hy0 : ys = [] := List.length_eq_zero_iff.1 I.len.symm
      have hx0 : xs = [] := List.length_eq_zero_iff.1 O.ln.symm
      have g1 := Go.Run.ap_none (P := P) (ty := ty) (ats := #[t, t2]) rfl hu hi w (x := .slice b 0 c) (news := Eng.ints ys) (by rw [hsz]; exact hs)
      exact key _ _ g1 (Rest.refl w) (H none 0 w.heap ⟨by rw [hx0, hy0]; rfl, .inl ⟨rfl, rfl, rfl⟩⟩ ⟨Nat.le_refl _, fun _ _ _ => rfl, fun p hp => by cases hp⟩)
    · exact grow (by omega)
  · by_cases hr : len + m ≤ cap
    · have g1 := Go.Run.ap_room (P := P) (ty := ty) (ats := #[t, t2]) (sLen := len) (sCap := cap) (off := 0) rfl hu hi w (by rw [hsz]; exact hs) q2 (fun u hu => by
          simp only [Eng.ints, List.mem_map] at hu
          obtain ⟨_, _, rfl⟩ := hu
          rfl) hr (by rw [hsz, ints_length, ← I.len]; omega)
      have hheap : (w.setRow g (splice cur.toList (0 + len * i.size) (Eng.ints ys)).toArray).heap[g]? = some (.cells (splice cur.toList (0 + len * i.size) (Eng.ints ys)).toArray el (0, 0)) := by
        have hlt := lt_of_get q2
        have hv := (Array.getElem?_eq_some_iff.1 q2).2
        simp [World.setRow, Array.getElem_modify, hlt, hv]
      refine key _ _ g1 ⟨rfl, rfl, rfl⟩ (H _ _ _ ⟨hlen.symm, .inr ⟨g, _, rfl, q1, hheap, ?_, hr, ?_⟩⟩ ⟨by simp [World.setRow], fun c hc hne => ?_, fun p hp => .inl ⟨p, hp, rfl⟩⟩)
      · simp [splice, hsz, ints_length, ← I.len]; omega
      · rw [List.toList_toArray, hsz, Nat.zero_add, Nat.mul_one, splice, q5]
        rw [List.take_append_of_le_length (by rw [List.length_append, ints_length, ints_length, ← O.ln, ← I.len]; omega), List.take_of_length_le (by rw [List.length_append, ints_length, ints_length, ← O.ln, ← I.len]; omega)]
        simp [Eng.ints]
      · have : g ≠ c := hne _ rfl
        simp [World.setRow, Array.getElem?_modify, this]
    · exact grow (by omega)
theorem append_intsT {t t2 el e2 : TypeId} {z : Int} (hu : P.underlying t = some (.slice el)) (hu2 : P.underlying t2 = some (.slice e2)) (hi : (P.info? el).isSome = true) (hsz : szT P el = 1) (hby : bytesT P el ≤ 8) (hz : zeroT P el = some (.int .i64 z))
    {x y : Operand} {a b : Option Addr} {len cap m c : Nat} {xs ys : List Int} {K : Value → Heap → Prop} (hx : ev er x = .slice a len cap) (hy : ev er y = .slice b m c) (O : OwnI h0 h el a len cap xs) (h0h : h0 ≤ h.size) (I : IntsV h b m ys) (hb : len + m ≤ 100000)
    (H : ∀ a' cap' h', OwnI h0 h' el a' (len + m) cap' (xs ++ ys) → App h h' a a' → K (.slice a' (len + m) cap') h') : opSem P (.call ⟨.builtin .append, #[x, y], #[t, t2]⟩) ty er h K := by
  obtain ⟨i, hi⟩ := Option.isSome_iff_exists.1 hi
  refine append_ints hu hu2 hi (by simpa [szT, hi] using hsz) (by simpa [bytesT, hi] using hby) (z := z) (by simpa [zeroT, hi] using hz) hx hy O h0h I hb H
def NewI (m : Nat) (h' : Heap) (el : TypeId) (v : Value) (xs : List Int) : Prop := ∃ a cap, v = .slice a xs.length cap ∧ OwnI m h' el a xs.length cap xs
theorem App.upd {h h' : Heap} {a a' : Option Addr} {el : TypeId} {len cap : Nat} {xs : List Int} {m c : Nat} {o : Obj} (A : App h h' a a') (O : OwnI m h el a len cap xs) (hc : h[c]? = some o) (hm : c < m) : h'[c]? = some o :=
  (A.old c (lt_of_get hc) fun p hp => by have := (O.lt hp).2; omega).trans hc
theorem App.extN {h h' h1 : Heap} {a a' : Option Addr} {el : TypeId} {len cap : Nat} {xs : List Int} {m : Nat} (A : App h h' a a') (O : OwnI m h el a len cap xs) (x : Ext h1 h) (hm : h1.size ≤ m) : Ext h1 h' :=
  ⟨Nat.le_trans x.size A.size, fun c hc => (A.old c (Nat.lt_of_lt_of_le hc x.size) fun p hp => by have := (O.lt hp).2; omega).trans (x.old c hc)⟩
theorem OwnI.upd {el : TypeId} {a : Option Addr} {len cap m b : Nat} {xs : List Int} {h h' : Heap} (O : OwnI m h el a len cap xs) (u : Upd h h' b) (hb : b < m) : OwnI m h' el a len cap xs :=
  O.keep fun p hp => u.old _ (by have := (O.lt hp).2; omega)
theorem OwnI.mono {el : TypeId} {a : Option Addr} {len cap m m' : Nat} {xs : List Int} {h : Heap} (O : OwnI m h el a len cap xs) (hm : m' ≤ m) : OwnI m' h el a len cap xs := by
  refine ⟨O.ln, ?_⟩
  rcases O.ok with h1 | ⟨g, cur, h1, h2, h3⟩
  · exact .inl h1
  · exact .inr ⟨g, cur, h1, by omega, h3⟩
theorem NewI.mono {m m' : Nat} {h' : Heap} {el : TypeId} {v : Value} {xs : List Int} (N : NewI m h' el v xs) (hm : m' ≤ m) : NewI m' h' el v xs := by
  obtain ⟨a, cap, h1, h2⟩ := N
  exact ⟨a, cap, h1, h2.mono hm⟩
theorem NewI.upd {m b : Nat} {h h' : Heap} {el : TypeId} {v : Value} {xs : List Int} (N : NewI m h el v xs) (u : Upd h h' b) (hb : b < m) : NewI m h' el v xs := by
  obtain ⟨a, cap, h1, h2⟩ := N
  exact ⟨a, cap, h1, h2.upd u hb⟩
theorem NewI.ext {m : Nat} {h h' : Heap} {el : TypeId} {v : Value} {xs : List Int} (N : NewI m h el v xs) (x : Ext h h') : NewI m h' el v xs := by
  obtain ⟨a, cap, h1, h2⟩ := N
  exact ⟨a, cap, h1, h2.ext x⟩
theorem setRow_heap {w : World} {g : Nat} {cur : Array Value} {ct : TypeId} {fr : Nat × Nat} (q : w.heap[g]? = some (.cells cur ct fr)) (l : List Value) : (w.setRow g l.toArray).heap[g]? = some (.cells l.toArray ct fr) ∧ Upd w.heap (w.setRow g l.toArray).heap g := by
  have hlt := lt_of_get q
  have hv := (Array.getElem?_eq_some_iff.1 q).2
  refine ⟨by simp [World.setRow, Array.getElem_modify, hlt, hv], by simp [World.setRow], fun b hb => ?_⟩
  simp [World.setRow, Array.getElem?_modify, Ne.symm hb]
theorem clear_intsT {t el ct : TypeId} {z : Int} (hu : P.underlying t = some (.slice el)) (hz : zeroT P el = some (.int .i64 z))
    {x : Operand} {g off n c : Nat} {cur : List Value} {K : Value → Heap → Prop} (hx : ev er x = .slice (some ⟨g, off, none⟩) n c) (hb : h[g]? = some (.cells cur.toArray ct (0, 0))) (hl : off + n ≤ cur.length)
    (H : ∀ h', h'[g]? = some (.cells (splice cur off (List.replicate n (.int .i64 z))).toArray ct (0, 0)) → Upd h h' g → K (.tuple #[]) h') : opSem P (.call ⟨.builtin .clear, #[x], #[t]⟩) ty er h K := by
  unfold opSem
  refine And.intro rfl fun w hw => ?_
  subst hw
  have hi : ∃ i, P.info? el = some i ∧ i.zero = some (.int .i64 z) := by
    unfold zeroT at hz
    cases hq : P.info? el with
    | none => simp [hq] at hz
    | some i => exact ⟨i, rfl, by simpa [hq] using hz⟩
  obtain ⟨i, hi, hz⟩ := hi
  have key : ∀ w', (Builtin.clear_ #[t] ty #[.slice (some ⟨g, off, none⟩) n c]).run P w = .ok (.tuple #[]) w' → Rest w w' → K (.tuple #[]) w'.heap →
      semPost P w K ((execOp (ev er) { dst := none, op := .call ⟨.builtin .clear, #[x], #[t]⟩, type := ty, pos := "", after := #[], guard := none }).run P w) := by
    intro w' h1 h2 h3
    have : (execOp (ev er) { dst := none, op := .call ⟨.builtin .clear, #[x], #[t]⟩, type := ty, pos := "", after := #[], guard := none }).run P w = .ok (.value (.tuple #[])) w' := by
      have hargs : #[x].map (ev er) = #[.slice (some ⟨g, off, none⟩) n c] := by simp [hx]
      simp only [execOp, resolve, invoke, builtin, Sem.run_bind, Sem.run_pure, Result.andThen_ok, hargs, h1]
    rw [this]
    exact ⟨h3, h2⟩
  cases n with
  | zero =>
    refine key w (by simp [Builtin.clear_, run_underlying hu]) (Rest.refl w) ?_
    refine H _ ?_ ⟨rfl, fun _ _ => rfl⟩
    rw [hb]
    simp [splice]
  | succ n =>
    have hst := run_storeCells_at P g off ct (List.replicate (n + 1) (Value.int .i64 z)) 0 cur.toArray w hb (by simpa using hl) (fun x hx => by rw [List.eq_of_mem_replicate hx]; rfl)
    simp only [Nat.add_zero, List.length_replicate] at hst
    have e3 : (Builtin.zeroCells (Value.int .i64 z).cells (n + 1)).toList = List.replicate (n + 1) (Value.int .i64 z) := by
      unfold Builtin.zeroCells
      rw [zeros_eq]
      simp [Value.cells]
    refine key (w.setRow g (splice cur off (List.replicate (n + 1) (.int .i64 z))).toArray) ?_ ⟨rfl, rfl, rfl⟩ ?_
    rotate_left
    · have e4 : cur.toArray.toList.take off ++ List.replicate (n + 1) (Value.int .i64 z) ++ cur.toArray.toList.drop (off + (n + 1)) = splice cur off (List.replicate (n + 1) (.int .i64 z)) := by simp [splice]
      exact H (w.setRow g (splice cur off (List.replicate (n + 1) (.int .i64 z))).toArray).heap (setRow_heap hb _).1 (setRow_heap hb _).2
    · have e4 : cur.toArray.toList.take off ++ List.replicate (n + 1) (Value.int .i64 z) ++ cur.toArray.toList.drop (off + (n + 1)) = splice cur off (List.replicate (n + 1) (.int .i64 z)) := by simp [splice]
      rw [e4] at hst
      simp only [Builtin.clear_, Sem.run_bind, run_underlying hu]
      have hzv : (zeroValue el).run P w = .ok (.int .i64 z) w := by simp [zeroValue, typeInfo, hi, hz]
      simp [run_underlying hu, hzv, e3, hst]
theorem copy_intsT {t t2 el e2 ct : TypeId} (hu : P.underlying t = some (.slice el)) (hu2 : P.underlying t2 = some (.slice e2)) (hi : (P.info? el).isSome = true) (hsz : szT P el = 1)
    {x y : Operand} {b : Option Addr} {g off n c m c2 : Nat} {cur : List Value} {ys : List Int} {K : Value → Heap → Prop} (hx : ev er x = .slice (some ⟨g, off, none⟩) n c) (hy : ev er y = .slice b m c2) (hb : h[g]? = some (.cells cur.toArray ct (0, 0))) (hl : off + n ≤ cur.length) (I : IntsV h b m ys)
    (H : ∀ h', h'[g]? = some (.cells (splice cur off (ints (ys.take n))).toArray ct (0, 0)) → Upd h h' g → K (.int .i64 (min m n : Nat)) h') : opSem P (.call ⟨.builtin .copy, #[x, y], #[t, t2]⟩) ty er h K := by
  unfold opSem
  refine And.intro rfl fun w hw => ?_
  subst hw
  obtain ⟨i, hi⟩ := Option.isSome_iff_exists.1 hi
  have hsz : i.size = 1 := by simpa [szT, hi] using hsz
  have hml := I.len
  have hf := firstC (P := P) (w := w) (c := c2) (k := min m n) I (Nat.min_le_left _ _)
  have et : (ints ys).take (min m n) = ints (ys.take n) := by
    simp only [ints, List.map_take]
    rw [List.take_eq_take_iff]
    simp
    omega
  rw [et] at hf
  have hlen : (ints (ys.take n)).length = min m n := by rw [ints_length, List.length_take]; omega
  have hst := run_storeCells_at P g off ct (ints (ys.take n)) 0 cur.toArray w hb (by rw [hlen]; simp; omega) (fun x hx => by simp only [ints, List.mem_map] at hx; obtain ⟨_, _, rfl⟩ := hx; rfl)
  simp only [Nat.add_zero] at hst
  have e4 : cur.toArray.toList.take off ++ ints (ys.take n) ++ cur.toArray.toList.drop (off + (ints (ys.take n)).length) = splice cur off (ints (ys.take n)) := by simp [splice]
  rw [e4] at hst
  have h1 : (Builtin.copy_ #[t, t2] ty #[.slice (some ⟨g, off, none⟩) n c, .slice b m c2]).run P w = .ok (.int .i64 (min m n : Nat)) (w.setRow g (splice cur off (ints (ys.take n))).toArray) := by
    have e5 : Nat.min m n = min m n := rfl
    simp only [Builtin.copy_, Sem.run_bind, run_underlying hu, sizeOf, typeInfo]
    simp [run_underlying hu, hi, hsz, Builtin.lenOf, e5, hf, hst, goInt]
  have hargs : #[x, y].map (ev er) = #[.slice (some ⟨g, off, none⟩) n c, .slice b m c2] := by simp [hx, hy]
  have : (execOp (ev er) { dst := none, op := .call ⟨.builtin .copy, #[x, y], #[t, t2]⟩, type := ty, pos := "", after := #[], guard := none }).run P w = .ok (.value (.int .i64 (min m n : Nat))) (w.setRow g (splice cur off (ints (ys.take n))).toArray) := by
    simp only [execOp, resolve, invoke, builtin, Sem.run_bind, Sem.run_pure, Result.andThen_ok, hargs, h1]
  rw [this]
  exact ⟨H _ (setRow_heap hb _).1 (setRow_heap hb _).2, rfl, rfl, rfl⟩
theorem OwnI.block {el : TypeId} {a : Option Addr} {len cap m : Nat} {xs : List Int} {h : Heap} (O : OwnI m h el a len cap xs) (hn : 0 < len) : ∃ g tl, a = some ⟨g, 0, none⟩ ∧ m ≤ g ∧ h[g]? = some (.cells (Eng.ints xs ++ tl).toArray el (0, 0)) ∧ cap ≤ len + tl.length ∧ len ≤ cap ∧ len = xs.length := by
  rcases O.ok with ⟨_, h1, _⟩ | ⟨g, cur, rfl, h1, h2, h3, h4, h5⟩
  · omega
  · refine ⟨g, cur.toList.drop len, rfl, h1, ?_, by simp; omega, h4, O.ln⟩
    rw [h2, ← h5, List.take_append_drop]
section eqs
open Go.Run
theorem vl_ints {ι : Io} : ∀ xs : List Int, VL ι (xs.map (T.int .i64)) (Eng.ints xs)
  | [] => by simp [Eng.ints, VL]
  | x :: xs => by
    have := vl_ints (ι := ι) xs
    simp only [Eng.ints, List.map_cons, VL, VR] at this ⊢
    exact ⟨_, _, rfl, rfl, this⟩
theorem beqF_ints : ∀ (xs ys : List Int), xs.length = ys.length → beqF (List.replicate xs.length .i) (xs.map (T.int .i64)) (ys.map (T.int .i64)) = some (decide (xs = ys))
  | [], [], _ => rfl
  | x :: xs, y :: ys, h => by
    have h1 := beqF_ints xs ys (by simpa using h)
    have hk : beqK .i64 .i64 = true := rfl
    simp only [List.length_cons, List.replicate_succ, List.map_cons, beqF, scEq, hk]
    by_cases hxy : x = y
    · have hb : beqI x y = true := by rw [← int_beq]; simpa using hxy
      rw [hb, h1]
      simp [hxy]
    · have hb : beqI x y = false := by rw [← int_beq]; simpa using hxy
      rw [hb]
      simp [hxy]
theorem eqAggW {p : Pr} (ok : Ok P p) {u yt : TypeId} {ti : TI} (hti : p.ty u = some ti) {a b : T} {v w : Value} {r : Bool} (hv : VR (fun _ => none) a v) (hw : VR (fun _ => none) b w) (he : eqAgg ti a b = some r) {op : BinOp} (ho : op = .eql ∨ op = .neq)
    {x y : Operand} (hx : ev er x = v) (hy : ev er y = w) {K : Value → Heap → Prop} (H : K (.bool (if op = .eql then r else !r)) h) : opSem P (.binOp op u x y yt) ty er h K := by
  refine opSem_pure rfl _ H fun W hW => ?_
  obtain ⟨h1, ⟨c, d, rfl, rfl⟩, hg, _⟩ := eqAgg_run (ok.tf hti) hv hw he W
  have : (do eqGuard op u x y (.agg c) (.agg d); Go.binOp op u (.agg c) (.agg d) : Sem Value).run P W = .ok (.bool (if op = .eql then r else !r)) W := by
    rcases ho with rfl | rfl <;> simp [eqGuard, hg, Go.binOp, h1]
  simp only [execOp, Sem.run_bind, hx, hy] at this ⊢
  rw [this]
  rfl
theorem eqIntsW {p : Pr} (ok : Ok P p) {u yt : TypeId} {ti : TI} (hti : p.ty u = some ti) {xs ys : List Int} (hl : xs.length = ys.length) (h0 : 0 < xs.length) (hfl : ti.fl = List.replicate xs.length .i)
    {x y : Operand} (hx : ev er x = .agg (Eng.ints xs).toArray) (hy : ev er y = .agg (Eng.ints ys).toArray) {K : Value → Heap → Prop} (H : K (.bool (decide (xs = ys))) h) : opSem P (.binOp .eql u x y yt) ty er h K := by
  refine eqAggW ok hti (a := .agg (xs.map (T.int .i64))) (b := .agg (ys.map (T.int .i64))) (r := decide (xs = ys)) ?_ ?_ ?_ (.inl rfl) hx hy (by simpa using H)
  · simp only [VR]; exact ⟨_, rfl, by simpa using vl_ints xs⟩
  · simp only [VR]; exact ⟨_, rfl, by simpa using vl_ints ys⟩
  · have := beqF_ints xs ys hl
    unfold eqAgg
    rw [hfl]
    cases hx : xs.length with
    | zero => omega
    | succ n => rw [hx] at this; simpa [List.replicate_succ] using this
end eqs
def Apart (a b : Option Addr) : Prop := ∀ p q, a = some p → b = some q → p.block ≠ q.block
theorem Apart.symm {a b : Option Addr} (H : Apart a b) : Apart b a := fun p q hp hq he => H q p hq hp he.symm
theorem Apart.app {el2 : TypeId} {a a' b : Option Addr} {lb cb mb : Nat} {ys : List Int} {h h' : Heap} (hne : Apart a b) (A : App h h' a a') (B : OwnI mb h el2 b lb cb ys) : Apart a' b := by
  intro p q hp hq
  have := (B.lt hq).1
  rcases A.to p hp with ⟨r, hr, he⟩ | h1
  · rw [← he]; exact hne r q hr hq
  · omega
theorem OwnI.apart {el el2 : TypeId} {a b : Option Addr} {len cap m lb cb mb : Nat} {xs ys : List Int} {h h' : Heap} (O : OwnI m h el a len cap xs) (B : OwnI mb h' el2 b lb cb ys) (hm : h.size ≤ mb) : Apart a b := by
  intro p q hp hq
  have := (O.lt hp).1
  have := (B.lt hq).2
  omega
theorem OwnI.take {el : TypeId} {a : Option Addr} {len cap m : Nat} {xs : List Int} (O : OwnI m h el a len cap xs) {k : Nat} (hk : k ≤ len) : OwnI m h el a k cap (xs.take k) := by
  refine ⟨by have := O.ln; simp; omega, ?_⟩
  rcases O.ok with ⟨h1, h2, h3⟩ | ⟨g, cur, h1, h2, h3, h4, h5, h6⟩
  · exact .inl ⟨h1, by omega, h3⟩
  · refine .inr ⟨g, cur, h1, h2, h3, h4, by omega, ?_⟩
    have : (cur.toList.take len).take k = (Eng.ints xs).take k := by rw [h6]
    rw [List.take_take, show min k len = k by omega] at this
    rw [this]
    simp [Eng.ints, List.map_take]
theorem OwnI.tail {el : TypeId} {len cap m g off : Nat} {xs : List Int} {vs : List Value} {cur : List Value} {h h' : Heap} (O : OwnI m h el (some ⟨g, 0, none⟩) len cap xs) (hb : h[g]? = some (.cells cur.toArray el (0, 0))) (hb' : h'[g]? = some (.cells (splice cur off vs).toArray el (0, 0))) (ho : len ≤ off) (hl : off + vs.length ≤ cur.length) : OwnI m h' el (some ⟨g, 0, none⟩) len cap xs := by
  rcases O.ok with ⟨h1, _⟩ | ⟨g2, cur2, h1, q1, q2, q3, q4, q5⟩
  · cases h1
  cases h1
  rw [hb] at q2
  cases q2
  refine ⟨O.ln, .inr ⟨g, _, rfl, q1, hb', by simp [splice] at q3 ⊢; omega, q4, ?_⟩⟩
  rw [← q5]
  simp only [splice, List.append_assoc]
  rw [List.take_append_of_le_length (by rw [List.length_take]; omega), List.take_take]
  congr 1
  omega
section bools
open Go.Run
end bools
end apps
end Go.Eng
end
