/- The engine: a verification condition for a function's code, over heaps alone, sound for the model's weakest precondition. No condition. -/
import Derived.TacticsIn
import Derived.OrdersIn
import Derived.RangeFuncLeaves
import Derived.RangeFuncCalls
import Derived.RangeFuncRecord
import Derived.IntWalk
import Derived.Deep.MidRow
import Derived.Laws.AppendOwn
set_option linter.unusedVariables false
set_option linter.unusedSimpArgs false
namespace Go.Eng
open Go
universe u

theorem eqi {α : Sort u} {a b : α} (h : a = b) : a = b := h
abbrev Heap := Array Obj
abbrev Env := List Value
abbrev Cont := Exit → Env → List Deferred → Heap → Prop

structure Rest (w w' : World) : Prop where
  os : w'.os = w.os
  tape : w'.tape = w.tape
  output : w'.output = w.output
theorem Rest.refl (w : World) : Rest w w := ⟨rfl, rfl, rfl⟩
theorem Rest.trans {a b c : World} (h : Rest a b) (k : Rest b c) : Rest a c := ⟨k.os.trans h.os, k.tape.trans h.tape, k.output.trans h.output⟩

def fen (l : Option Nat) : Fence := { Fence.wide with round := l }

def ev (e : Env) : Operand → Value
  | .tmp t => e.getD t undef
  | .const v => v
  | .global g => .pointer (some ⟨g, 0, none⟩)
  | .func f => .func (.func f) #[] #[]

theorem eval_ev (e : Env) (d : List Deferred) : (Act.mk e.toArray d).eval = ev e := by
  funext x; cases x <;> simp [Act.eval, ev]

def putE (e : Env) (dst : Option Tmp) (v : Value) : Env := match dst with | some t => e.set t v | none => e
theorem put_putE (e : Env) (d : List Deferred) (dst : Option Tmp) (v : Value) : (Act.mk e.toArray d).put dst v = ⟨(putE e dst v).toArray, d⟩ := by
  cases dst <;> simp [Act.put, putE]

/-- A call, over heaps. -/
def bodied (P : Program) (f : FuncId) : Bool := match P.funcs[f]? with | some fn => !(fn.name == "runtime.NumGoroutine") && fn.body.isSome | none => false
def CallsW (P : Program) (f : FuncId) (args : Array Value) (w : World) (K : Value → Heap → Prop) : Prop :=
  Calls P f args w fun e w' => ∃ v, e = .returned v ∧ K v w'.heap ∧ Rest w w'
def CallsH (P : Program) (f : FuncId) (args : Array Value) (h : Heap) (K : Value → Heap → Prop) : Prop :=
  bodied P f = true ∧ ∀ w : World, w.heap = h → CallsW P f args w K
theorem CallsW.mono {P : Program} {f : FuncId} {args : Array Value} {w : World} {K K' : Value → Heap → Prop} (H : CallsW P f args w K) (hk : ∀ v h, K v h → K' v h) : CallsW P f args w K' :=
  Calls.mono H fun _ _ ⟨v, he, hv, hr⟩ => ⟨v, he, hk _ _ hv, hr⟩
theorem CallsH.mono {P : Program} {f : FuncId} {args : Array Value} {h : Heap} {K K' : Value → Heap → Prop} (H : CallsH P f args h K) (hk : ∀ v h', K v h' → K' v h') : CallsH P f args h K' :=
  ⟨H.1, fun w hw => (H.2 w hw).mono hk⟩

def semPost (P : Program) (w : World) (K : Value → Heap → Prop) : Result Next → Prop
  | .ok (.value v) w' => K v w'.heap ∧ Rest w w'
  | .ok .skip w' => K undef w'.heap ∧ Rest w w'
  | .ok (.enter f args) w' => Rest w w' ∧ CallsW P f args w' K
  | .ok (.round l f tmps asg body) w' => Rest w w' ∧ RoundIn Fence.wide 0 P l f tmps asg body w' fun e w'' => ∃ v, e = .returned v ∧ K v w''.heap ∧ Rest w' w''
  | _ => False
def noDefer : Op → Bool | .defer _ => false | _ => true
def opSem (P : Program) (o : Op) (ty : TypeId) (e : Env) (h : Heap) (K : Value → Heap → Prop) : Prop :=
  noDefer o = true ∧ ∀ w : World, w.heap = h → semPost P w K ((execOp (ev e) { dst := none, op := o, type := ty, pos := "", after := #[], guard := none }).run P w)
theorem opSem_mono {P : Program} {o : Op} {ty : TypeId} {e : Env} {h : Heap} {K K' : Value → Heap → Prop} (hk : ∀ v h', K v h' → K' v h') (H : opSem P o ty e h K) : opSem P o ty e h K' := by
  refine ⟨H.1, fun w hw => ?_⟩
  have h1 := H.2 w hw
  unfold semPost at *
  split at h1
  · exact ⟨hk _ _ h1.1, h1.2⟩
  · exact ⟨hk _ _ h1.1, h1.2⟩
  · exact ⟨h1.1, h1.2.mono hk⟩
  · exact ⟨h1.1, h1.2.mono fun e w'' ⟨v, he, hv, hr⟩ => ⟨v, he, hk _ _ hv, hr⟩⟩
  · exact h1

/-! ### operations -/
def onSome {α : Type} (o : Option α) (F : α → Prop) : Prop := match o with | some x => F x | none => False
def onV (o : Option Value) (K : Value → Heap → Prop) (h : Heap) : Prop := match o with | some x => K x h | none => False
theorem onV_iff {o : Option Value} {K : Value → Heap → Prop} {h : Heap} : onV o K h ↔ ∃ x, o = some x ∧ K x h := by cases o <;> simp [onV]
def onC (o : Option (List Value)) (K : Value → Heap → Prop) (h : Heap) : Prop := match o with | some cs => K (.agg cs.toArray) h | none => False
theorem onC_iff {o : Option (List Value)} {K : Value → Heap → Prop} {h : Heap} : onC o K h ↔ ∃ cs, o = some cs ∧ K (.agg cs.toArray) h := by cases o <;> simp [onC]
theorem onSome_iff {α : Type} {o : Option α} {F : α → Prop} : onSome o F ↔ ∃ x, o = some x ∧ F x := by cases o <;> simp [onSome]
def szT (P : Program) (t : TypeId) : Nat := ((P.info? t).map (·.size)).getD 0
def zeroT (P : Program) (t : TypeId) : Option Value := (P.info? t).bind (·.zero)
def aggT (P : Program) (t : TypeId) : Option Bool := match P.underlying t with | some (.struct _) => some true | some (.array _ _) => some true | some _ => some false | none => none
def cellH (h : Heap) (p : Option Addr) : Option Value :=
  match p with
  | some a => match h[a.block]? with
    | some (.cells c _ _) => if a.spot.isSome then none else c[a.off]?
    | _ => none
  | none => none
def cellsH (h : Heap) (p : Option Addr) (n : Nat) : Option (List Value) :=
  match p with
  | some a => match h[a.block]? with
    | some (.cells c _ _) => if a.spot.isNone && decide (a.off + n ≤ c.size) then some ((c.toList.drop a.off).take n) else none
    | _ => none
  | none => none
def loadW (P : Program) (t : TypeId) (v : Value) (h : Heap) (K : Value → Heap → Prop) : Prop :=
  match v with
  | .pointer p => match aggT P t with
    | some true => (P.info? t).isSome = true ∧ onC (cellsH h p (szT P t)) K h
    | some false => onV (cellH h p) K h
    | none => False
  | _ => False
abbrev one (v : Value) : Bool := v.oneCell'
def splice (c : List Value) (off : Nat) (vs : List Value) : List Value := c.take off ++ vs ++ c.drop (off + vs.length)
def rowH (h : Heap) (b : Nat) : Option (List Value × TypeId) := match h[b]? with | some (.cells c t (lo, hi)) => if lo = 0 ∧ hi = 0 then some (c.toList, t) else none | _ => none
def updH (h : Heap) (b : Nat) (c : List Value) (t : TypeId) : Heap := h.setIfInBounds b (.cells c.toArray t)
def stK (r : Option (List Value × TypeId)) (b off : Nat) (vs : List Value) (h : Heap) (K : Value → Heap → Prop) : Prop :=
  match r with | some (c, ct) => off + vs.length ≤ c.length ∧ K undef (updH h b (splice c off vs) ct) | none => False
def storeW (P : Program) (t : TypeId) (p v : Value) (h : Heap) (K : Value → Heap → Prop) : Prop :=
  match p with
  | .pointer (some ⟨b, off, none⟩) => (P.info? t).isSome = true ∧ v.cells.size = szT P t ∧ v.cells.toList.all one = true ∧
      stK (rowH h b) b off v.cells.toList h K
  | _ => False
def addA (a : Addr) (n : Nat) : Addr := if n = 0 then a else ⟨a.block, a.off + n, none⟩
theorem addA_eq (a : Addr) (n : Nat) : a.add n = addA a n := rfl
def fieldOff (P : Program) (s : TypeId) (f : Nat) : Option Nat := match P.underlying s with | some (.struct fs) => (match fs[f]? with | some fd => if (P.info? fd.type).isSome && decide (szT P fd.type ≠ 0) then some fd.offset else none | none => none) | _ => none
def eltP (a : Option Addr) (n : Nat) : Option Addr := a.map (fun x => addA x n)
def idxW (P : Program) (t : TypeId) (x i : Value) (h : Heap) (K : Value → Heap → Prop) : Prop :=
  match i with
  | .int _ n => match P.underlying t, x with
    | some (.slice el), .slice a len _ => (P.info? el).isSome = true ∧ (0 ≤ n ∧ n < len) ∧ a.isSome = true ∧ K (.pointer (eltP a (n.toNat * szT P el))) h
    | some (.array len el), .pointer (some a) => (P.info? el).isSome = true ∧ (0 ≤ n ∧ n < len) ∧ K (.pointer (some (addA a (n.toNat * szT P el)))) h
    | _, _ => False
  | _ => False
def InK (k : IntKind) (n : Int) : Prop := k.min ≤ n ∧ n ≤ k.max
def bitsI (op : BinOp) (k : IntKind) (x y : Int) : Int :=
  let a := BitVec.ofInt k.bits x
  let b := BitVec.ofInt k.bits y
  k.wrap (match op with | .and => a &&& b | .or => a ||| b | .xor => a ^^^ b | _ => a &&& ~~~b).toNat
def intW (op : BinOp) (k : IntKind) (x y : Int) (h : Heap) (K : Value → Heap → Prop) : Prop :=
  match op with
  | .add => InK k (x + y) ∧ K (.int k (x + y)) h
  | .sub => InK k (x - y) ∧ K (.int k (x - y)) h
  | .mul => InK k (x * y) ∧ K (.int k (x * y)) h
  | .quo => y ≠ 0 ∧ InK k (x.tdiv y) ∧ K (.int k (x.tdiv y)) h
  | .rem => y ≠ 0 ∧ K (.int k (x.tmod y)) h
  | .eql => K (.bool (decide (x = y))) h
  | .neq => K (.bool (!decide (x = y))) h
  | .lss => K (.bool (decide (x < y))) h
  | .leq => K (.bool (decide (x ≤ y))) h
  | .gtr => K (.bool (decide (y < x))) h
  | .geq => K (.bool (decide (y ≤ x))) h
  | .shl => 0 ≤ y ∧ y ≤ k.bits ∧ InK k (x * 2 ^ y.toNat) ∧ K (.int k (x * 2 ^ y.toNat)) h
  | .shr => 0 ≤ y ∧ y ≤ k.bits ∧ K (.int k (x / 2 ^ y.toNat)) h
  | .and => K (.int k (bitsI .and k x y)) h
  | .or => K (.int k (bitsI .or k x y)) h
  | .xor => K (.int k (bitsI .xor k x y)) h
  | .andNot => K (.int k (bitsI .andNot k x y)) h
def strW (op : BinOp) (s t : ByteArray) (h : Heap) (K : Value → Heap → Prop) (F : Prop) : Prop :=
  match op with
  | .add => ((s.size + t.size : Nat) : Int) ≤ 9223372036854775807 ∧ K (.string (s ++ t)) h
  | .eql => K (.bool (decide (s = t))) h
  | .neq => K (.bool (!decide (s = t))) h
  | _ => F
def binW (op : BinOp) (x y : Value) (h : Heap) (K : Value → Heap → Prop) (F : Prop) : Prop :=
  match x, y with
  | .int k a, .int k' b => match op with
    | .shl => intW .shl k a b h K
    | .shr => intW .shr k a b h K
    | op => k = k' ∧ intW op k a b h K
  | .string s, .string t => strW op s t h K F
  | _, _ => F
def callV (P : Program) (v : Value) (args : Array Value) (h : Heap) (K : Value → Heap → Prop) (F : Prop) : Prop :=
  match v with
  | .func (.func f) first caps => CallsH P f (first ++ args ++ caps) h K
  | _ => F
/-! more operations that only compute -/
def bltW (b : Builtin) (vs : List Value) (d : Option TypeDesc) (h : Heap) (K : Value → Heap → Prop) (F : Prop) : Prop :=
  match b, vs, d with
  | .len, [.slice _ n _], some (.slice _) => K (.int .i64 n) h
  | .len, [.string s], some .string => K (.int .i64 s.size) h
  | .min, [.int k x, .int _ y], _ => K (.int k (if y < x then y else x)) h
  | .max, [.int k x, .int _ y], _ => K (.int k (if x < y then y else x)) h
  | _, _, _ => F
def fieldPS (P : Program) (t : TypeId) (i : Nat) : Option (Nat × Nat) :=
  match P.underlying t with | some (.struct fs) => (match fs[i]? with | some fd => if (P.info? fd.type).isSome then some (fd.offset, szT P fd.type) else none | none => none) | _ => none
def okFields (P : Program) (t : TypeId) : Bool := match P.underlying t with | some (.struct fs) => fs.all fun fd => (P.info? fd.type).isSome | _ => false
def fillL (pl : Nat → Option (Nat × Nat)) : List Value → List (Nat × Value) → Option (List Value)
  | cells, [] => some cells
  | cells, (i, v) :: rest => match pl i with
    | some (off, size) => if v.cells.size = size ∧ off + size ≤ cells.length then fillL pl (splice cells off v.cells.toList) rest else none
    | none => none
def bldW (P : Program) (t : TypeId) (parts : List (Nat × Value)) (h : Heap) (K : Value → Heap → Prop) (F : Prop) : Prop :=
  match okFields P t, zeroT P t with
  | true, some z => onC (fillL (fieldPS P t) z.cells.toList parts) K h
  | _, _ => F
def sliceSW (s : ByteArray) (lo hi : Int) (h : Heap) (K : Value → Heap → Prop) : Prop := 0 ≤ lo ∧ lo ≤ hi ∧ hi ≤ s.size ∧ K (.string (s.extract lo.toNat hi.toNat)) h
def bnd (v : Option Value) (dflt : Nat) : Option Int := match v with | some (.int _ n) => some n | none => some dflt | _ => none
def sliceVW (P : Program) (a : Option Addr) (cap : Nat) (el : TypeId) (lo hi mx : Int) (h : Heap) (K : Value → Heap → Prop) : Prop :=
  (P.info? el).isSome = true ∧ 0 ≤ lo ∧ lo ≤ hi ∧ hi ≤ mx ∧ mx ≤ cap ∧ K (.slice (if mx = lo then a else eltP a (lo.toNat * szT P el)) (hi - lo).toNat (mx - lo).toNat) h
def slcW (P : Program) (x : Value) (d : Option TypeDesc) (lo hi mx : Option Value) (h : Heap) (K : Value → Heap → Prop) (F : Prop) : Prop :=
  match x, d, mx with
  | .string s, some .string, none => (match bnd lo 0, bnd hi s.size with | some l, some r => sliceSW s l r h K | _, _ => False)
  | .slice a len cap, some (.slice el), mx => (match bnd lo 0, (match mx, hi with | some _, none => none | _, hi => bnd hi len), bnd mx cap with | some l, some r, some m => sliceVW P a cap el l r m h K | _, _, _ => False)
  | .pointer (some a), some (.array n el), none => (match bnd lo 0, bnd hi n with | some l, some r => sliceVW P (some a) n el l r n h K | _, _ => False)
  | _, _, _ => F
def idsW (x i : Value) (d : Option TypeDesc) (h : Heap) (K : Value → Heap → Prop) (F : Prop) : Prop :=
  match x, i, d with
  | .string s, .int _ n, some .string => (0 ≤ n ∧ n < s.size) ∧ K (.int .u8 (s.data.getD n.toNat 0).toNat) h
  | _, _, _ => F
def partW (P : Program) (t : TypeId) (cs : List Value) (off : Nat) (h : Heap) (K : Value → Heap → Prop) : Prop :=
  match aggT P t with
  | some true => (P.info? t).isSome = true ∧ K (.agg ((cs.drop off).take (szT P t)).toArray) h
  | some false => onV cs[off]? K h
  | none => False
def fldW (P : Program) (x : Value) (fd : Option (Nat × TypeId)) (h : Heap) (K : Value → Heap → Prop) (F : Prop) : Prop :=
  match x, fd with | .agg cs, some (off, t) => partW P t cs.toList off h K | _, _ => F
def fieldOT (P : Program) (t : TypeId) (i : Nat) : Option (Nat × TypeId) :=
  match P.underlying t with | some (.struct fs) => (fs[i]?).map fun fd => (fd.offset, fd.type) | _ => none
def negW (x : Value) (h : Heap) (K : Value → Heap → Prop) (F : Prop) : Prop := match x with | .int k n => InK k (0 - n) ∧ K (.int k (0 - n)) h | _ => F
def pvW (P : Program) (o : Op) (e : Env) (h : Heap) (K : Value → Heap → Prop) (F : Prop) : Prop :=
  match o with
  | .call { callee := .builtin b, args, argTypes } => bltW b (args.map (ev e)).toList ((argTypes[0]?).bind P.underlying) h K F
  | .build t parts => bldW P t (parts.map fun (i, x) => (i, ev e x)).toList h K F
  | .slice t x lo hi mx => slcW P (ev e x) (P.underlying t) (lo.map (ev e)) (hi.map (ev e)) (mx.map (ev e)) h K F
  | .index t x i => idsW (ev e x) (ev e i) (P.underlying t) h K F
  | .field t x f => fldW P (ev e x) (fieldOT P t f) h K F
  | .unOp .neg _ x => negW (ev e x) h K F
  | _ => F
/-! operations that make a block -/
def bytesT (P : Program) (t : TypeId) : Nat := ((P.info? t).map (·.bytes)).getD 0
def bslW (P : Program) (d : Option TypeDesc) (n : Nat) (parts : List (Nat × Value)) (h : Heap) (K : Value → Heap → Prop) (F : Prop) : Prop :=
  match d with
  | some (.slice el) => (match zeroT P el with
    | some z => z.cells.size = szT P el ∧ 0 < szT P el ∧ n * szT P el ≤ 16777216 ∧
        onSome (fillL (fun i => some (i * szT P el, szT P el)) (List.replicate n z.cells.toList).flatten parts) (fun cs => K (.slice (some ⟨h.size, 0, none⟩) n n) (h.push (.cells cs.toArray el)))
    | none => F)
  | _ => F
def mksW (P : Program) (d : Option TypeDesc) (l c : Value) (h : Heap) (K : Value → Heap → Prop) (F : Prop) : Prop :=
  match d, l, c with
  | some (.slice el), .int _ l, .int _ c => (match zeroT P el with
    | some z => z.cells.size = szT P el ∧ 0 < szT P el ∧ 0 ≤ l ∧ l ≤ c ∧ c * bytesT P el ≤ 281474976710656 ∧ c ≤ 9223372036854775807 ∧
        K (.slice (some ⟨h.size, 0, none⟩) l.toNat c.toNat) (h.push (.cells (List.replicate c.toNat z.cells.toList).flatten.toArray el))
    | none => F)
  | _, _, _ => F
def alcW (P : Program) (o : Op) (ty : TypeId) (e : Env) (h : Heap) (K : Value → Heap → Prop) : Prop :=
  match o with
  | .buildSlice t n parts => bslW P (P.underlying t) n (parts.map fun (i, x) => (i, ev e x)).toList h K (opSem P o ty e h K)
  | .makeSlice t l c => mksW P (P.underlying t) (ev e l) (ev e c) h K (opSem P o ty e h K)
  | .makeMap _ none => K (.map (some h.size)) (h.push (.map #[] 0))
  | _ => opSem P o ty e h K
def opW (P : Program) (o : Op) (ty : TypeId) (e : Env) (h : Heap) (K : Value → Heap → Prop) : Prop :=
  match o with
  | .move x => K (ev e x) h
  | .assign x => K (ev e x) h
  | .pick c a b => match ev e c with | .bool t => K (if t then ev e a else ev e b) h | _ => False
  | .alloc t => onSome (zeroT P t) (fun z => K (.pointer (some ⟨h.size, 0, none⟩)) (h.push (.cells z.cells t)))
  | .box t x => K (.pointer (some ⟨h.size, 0, none⟩)) (h.push (.cells (ev e x).cells t))
  | .load t x => loadW P t (ev e x) h K
  | .store t a x => storeW P t (ev e a) (ev e x) h K
  | .fieldAddr s x f => match ev e x with
    | .pointer (some a) => a.spot = none ∧ onSome (fieldOff P s f) (fun off => K (.pointer (some (addA a off))) h)
    | _ => False
  | .indexAddr t x i => idxW P t (ev e x) (ev e i) h K
  | .nilCheck x => match ev e x with | .pointer (some a) => K (.pointer (some a)) h | _ => opSem P o ty e h K
  | .binOp op _ x y _ => binW op (ev e x) (ev e y) h K (opSem P o ty e h K)
  | .unOp .not _ x => match ev e x with | .bool b => K (.bool (!b)) h | _ => False
  | .convert s d x => match ev e x, P.underlying d, P.underlying s with
    | .int _ n, some (.int k), some (.int _) => InK k n ∧ K (.int k n) h
    | _, _, _ => opSem P o ty e h K
  | .extract x i => match ev e x with
    | .tuple vs => onV vs[i]? K h
    | _ => False
  | .makeFunc fn first caps => K (.func fn (first.map (ev e)) (caps.map (ev e))) h
  | .call { callee := .value f, args, .. } => callV P (ev e f) (args.map (ev e)) h K (opSem P o ty e h K)
  | o => pvW P o e h K (alcW P o ty e h K)

/-! ### code -/
def boolW (v : Value) (F : Bool → Prop) (U : Prop) : Prop :=
  match v with
  | .bool b => (b = true → F true) ∧ (b = false → F false)
  | .tuple _ => U
  | _ => False
def gslot (all : List Oper) (j : Nat) : Option Tmp := (all[j]?).bind (·.dst)
def guardW (g : Option (Nat × Bool)) (all : List Oper) (e : Env) (A B : Env → Prop) : Prop :=
  match g with
  | none => A e
  | some (j, want) => match gslot all j with
    | none => B e
    | some t => boolW (e.getD t undef) (fun b => if b = want then A (e.set t (.bool b)) else B (e.set t (.bool b))) (B e)
def condW (x : Operand) (e : Env) (X Y : Env → Prop) : Prop :=
  match x with
  | .tmp t => boolW (e.getD t undef) (fun b => if b then X (e.set t (.bool true)) else Y (e.set t (.bool false))) False
  | .const (.bool true) => X e
  | .const (.bool false) => Y e
  | _ => False
def thenK (n : Env → List Deferred → Heap → Prop) (k : Cont) : Cont := fun x e d h => match x with | .normal => n e d h | x => k x e d h
def blockK (i : Nat) (k : Cont) : Cont := fun x e d h => match x with | .exit j => if j = i then k .normal e d h else k (.exit j) e d h | x => k x e d h

def execR (P : Program) (all : List Oper) : List Oper → Cont → Env → List Deferred → Heap → Prop
  | [], k, e, d, h => k .normal e d h
  | o :: rest, k, e, d, h => guardW o.guard all e (fun e => opW P o.op o.type e h (fun v h' => execR P all rest k (putE e o.dst v) d h')) (fun e => execR P all rest k (putE e o.dst undef) d h)

def WP (l : Option Nat) (P : Program) (c : Code) (k : Cont) (e : Env) (d : List Deferred) (h : Heap) : Prop :=
  ∀ w : World, w.heap = h → c.wpIn (fen l) 0 P (fun x a w' => k x a.tmps.toList a.defers w'.heap ∧ Rest w w') ⟨e.toArray, d⟩ w

def exec (l : Option Nat) (P : Program) : Code → Cont → Env → List Deferred → Heap → Prop
  | .skip, k, e, d, h => k .normal e d h
  | .seq a b, k, e, d, h => exec l P a (thenK (exec l P b k) k) e d h
  | .cond c x y, k, e, d, h => condW c e (fun e => exec l P x k e d h) (fun e => exec l P y k e d h)
  | .block i c, k, e, d, h => exec l P c (blockK i k) e d h
  | .region _ ops false, k, e, d, h => execR P ops.toList ops.toList k e d h
  | .exit i, k, e, d, h => k (.exit i) e d h
  | .ret, k, e, d, h => k .ret e d h
  | .label _, k, e, d, h => k .normal e d h
  | .goto i, k, e, d, h => k (.goto i) e d h
  | c, k, e, d, h => WP l P c k e d h

/-! ### soundness of the operations -/
section sound
variable {P : Program} {ty : TypeId} {e : Env} {h : Heap} {K : Value → Heap → Prop}

theorem semPost_value {w w' : World} {v : Value} (hk : K v w'.heap) (hr : Rest w w') : semPost P w K (.ok (.value v) w') := ⟨hk, hr⟩

theorem opSem_value {o : Op} (hd : noDefer o = true) (v : Value) (h' : Heap) (hk : K v h')
    (H : ∀ w : World, w.heap = h → ∃ w', (execOp (ev e) { dst := none, op := o, type := ty, pos := "", after := #[], guard := none }).run P w = .ok (.value v) w' ∧ w'.heap = h' ∧ Rest w w') : opSem P o ty e h K := by
  refine ⟨hd, fun w hw => ?_⟩
  obtain ⟨w', h1, h2, h3⟩ := H w hw
  rw [h1]
  exact ⟨h2 ▸ hk, h3⟩
theorem opSem_pure {o : Op} (hd : noDefer o = true) (v : Value) (hk : K v h)
    (H : ∀ w : World, w.heap = h → (execOp (ev e) { dst := none, op := o, type := ty, pos := "", after := #[], guard := none }).run P w = .ok (.value v) w) : opSem P o ty e h K :=
  opSem_value hd v h hk fun w hw => ⟨w, H w hw, hw, Rest.refl w⟩

theorem wrap_inK {k : IntKind} {n : Int} (h : InK k n) : k.wrap n = n := by
  obtain ⟨h1, h2⟩ := h
  cases k <;> simp [IntKind.wrap, IntKind.min, IntKind.max, IntKind.signed, IntKind.bits] at * <;> omega

theorem aggT_run {t : TypeId} {b : Bool} (h : aggT P t = some b) (w : World) : (isAgg t).run P w = .ok b w := by
  unfold aggT at h
  unfold isAgg
  cases hu : P.underlying t with
  | none => simp [hu] at h
  | some d =>
    rw [Sem.run_bind, run_underlying hu w]
    cases d <;> simp_all

theorem cell_of_cellH {w : World} {a : Addr} {x : Value} (h : cellH w.heap (some a) = some x) : w.cell? a = some x := by
  unfold cellH at h; unfold World.cell?; exact h

theorem load_sound {t : TypeId} {v : Value} (H : loadW P t v h K) : ∃ x, K x h ∧ ∀ w : World, w.heap = h → (Instr.loadAt t v).run P w = .ok x w := by
  unfold loadW at H
  split at H
  case h_2 => exact H.elim
  rename_i p
  cases p with
  | none => split at H <;> simp [cellsH, cellH, onV, onC] at H
  | some a =>
  split at H
  · rename_i hagg
    obtain ⟨hi, H⟩ := H
    rw [onC_iff] at H
    obtain ⟨cs, hcs, hk⟩ := H
    refine ⟨_, hk, fun w hw => ?_⟩
    subst hw
    obtain ⟨i, hi⟩ := Option.isSome_iff_exists.1 hi
    have hl : (loadCells a cs.length).run P w = .ok cs.toArray w := by
      refine run_loadCells_list (P := P) w a cs (fun j x hx => ?_)
      obtain ⟨b, o, sp⟩ := a
      unfold cellsH at hcs
      cases hb : w.heap[b]? with
      | none => simp [hb] at hcs
      | some ob =>
        cases ob with
        | cells c ct fr =>
          simp only [hb] at hcs
          split at hcs
          · rename_i hc
            simp only [Bool.and_eq_true, Option.isNone_iff_eq_none, decide_eq_true_eq] at hc
            obtain ⟨hsp, hlen⟩ := hc
            cases hcs
            subst hsp
            rw [Addr.add_mid]
            unfold World.cell?
            simp only [hb]
            have hj : j < szT P t := by
              have := (List.getElem?_eq_some_iff.1 hx).1
              simp at this; omega
            rw [List.getElem?_take, if_pos hj, List.getElem?_drop] at hx
            simpa using hx
          · cases hcs
        | _ => simp [hb] at hcs
    have hsz : cs.length = i.size := by
      have : szT P t = i.size := by simp [szT, hi]
      unfold cellsH at hcs
      split at hcs <;> try (cases hcs; done)
      split at hcs <;> try (cases hcs; done)
      split at hcs
      · rename_i hc
        simp only [Bool.and_eq_true, decide_eq_true_eq] at hc
        cases hcs
        have h2 := hc.2
        simp
        omega
      · cases hcs
    simp [Instr.loadAt, Instr.sureAddr, loadVar, Sem.run_bind, aggT_run hagg, sizeOf, typeInfo, hi, ← hsz, hl]
  · rename_i hagg
    rw [onV_iff] at H
    obtain ⟨x, hx, hk⟩ := H
    refine ⟨x, hk, fun w hw => ?_⟩
    subst hw
    have := cell_of_cellH hx
    simp [Instr.loadAt, Instr.sureAddr, loadVar, Sem.run_bind, aggT_run hagg, this]
  · exact H.elim

theorem store_sound {t : TypeId} {p v : Value} (H : storeW P t p v h K) :
    ∃ h', K undef h' ∧ ∀ w : World, w.heap = h → ∃ w', (Instr.storeAt t p v).run P w = .ok () w' ∧ w'.heap = h' ∧ Rest w w' := by
  unfold storeW at H
  split at H
  case h_2 => exact H.elim
  rename_i b off
  obtain ⟨hi, hsz, hone, H⟩ := H
  unfold stK at H
  split at H
  case h_2 => exact H.elim
  rename_i c ct hc
  obtain ⟨hlen, hk⟩ := H
  refine ⟨_, hk, fun w hw => ?_⟩
  subst hw
  obtain ⟨i, hi⟩ := Option.isSome_iff_exists.1 hi
  have hb : w.heap[b]? = some (.cells c.toArray ct (0, 0)) := by
    unfold rowH at hc
    split at hc
    · rename_i ca _ lo hi' hb
      split at hc
      · rename_i hz
        obtain ⟨rfl, rfl⟩ := hz
        cases hc
        simpa using hb
      · cases hc
    · cases hc
  have hst := run_storeCells_at P b off ct v.cells.toList 0 c.toArray w hb (by simpa using hlen) (fun x hx => List.all_eq_true.1 hone x hx)
  refine ⟨w.setRow b (splice c off v.cells.toList).toArray, ?_, ?_, ?_⟩
  · have hs : v.cells.size = i.size := by simpa [szT, hi] using hsz
    simp only [Nat.add_zero] at hst
    simp [Instr.storeAt, Instr.sureAddr, storeVar, sizeOf, typeInfo, hi, hs, hst, splice]
  · have hlt : b < w.heap.size := (Array.getElem?_eq_some_iff.1 hb).1
    have hv := (Array.getElem?_eq_some_iff.1 hb).2
    unfold updH World.setRow
    apply Array.ext
    · simp
    · intro j hj1 hj2
      rw [Array.getElem_modify, Array.getElem_setIfInBounds]
      split
      · rename_i hbj
        subst hbj
        simp [hv]
      · rfl
  · exact ⟨rfl, rfl, rfl⟩

theorem idx_sound {t : TypeId} {x i : Value} (H : idxW P t x i h K) : ∃ v, K v h ∧ ∀ w : World, (Instr.indexAt t x i).run P w = .ok v w := by
  unfold idxW at H
  split at H
  case h_2 => exact H.elim
  rename_i k n
  split at H
  · rename_i el a len cap hu
    obtain ⟨hi, hr, ha, hk⟩ := H
    obtain ⟨a, rfl⟩ := Option.isSome_iff_exists.1 ha
    obtain ⟨inf, hi⟩ := Option.isSome_iff_exists.1 hi
    refine ⟨_, hk, fun w => ?_⟩
    simp [Instr.indexAt, asIntOf, run_underlying hu, hr, sizeOf, typeInfo, hi, eltP, szT, addA_eq]
  · rename_i len el a hu
    obtain ⟨hi, hr, hk⟩ := H
    obtain ⟨inf, hi⟩ := Option.isSome_iff_exists.1 hi
    refine ⟨_, hk, fun w => ?_⟩
    simp [Instr.indexAt, asIntOf, run_underlying hu, Instr.sureAddr, hr, sizeOf, typeInfo, hi, szT, addA_eq]
  · exact H.elim

theorem bits_size (s t : ByteArray) : (s.toList == t.toList) = decide (s = t) := by
  have key : ∀ x y : ByteArray, x.toList = y.toList → x = y := by
    intro x y hxy
    have : x.data = y.data := by
      have h1 : x.toList = x.data.toList := ByteArray.toList_eq x
      have h2 : y.toList = y.data.toList := ByteArray.toList_eq y
      rw [h1, h2] at hxy
      exact Array.toList_inj.1 hxy
    cases x; cases y; simp_all
  by_cases h : s = t
  · subst h; simp
  · have : s.toList ≠ t.toList := fun hh => h (key _ _ hh)
    simp [h, this]

theorem intW_sound {op : BinOp} {k : IntKind} {x y : Int} (H : intW op k x y h K) (ho : op ≠ .shl) (ho' : op ≠ .shr) : ∃ v, K v h ∧ ∀ (t : TypeId) (w : World), (binOp op t (.int k x) (.int k y)).run P w = .ok v w := by
  cases op
  case shl => exact absurd rfl ho
  case shr => exact absurd rfl ho'
  case add => exact ⟨_, H.2, fun t w => by simp [binOp, Op.intArith, wrap_inK H.1]⟩
  case sub => exact ⟨_, H.2, fun t w => by simp [binOp, Op.intArith, wrap_inK H.1]⟩
  case mul => exact ⟨_, H.2, fun t w => by simp [binOp, Op.intArith, wrap_inK H.1]⟩
  case quo => exact ⟨_, H.2.2, fun t w => by simp [binOp, Op.intDiv, H.1, wrap_inK H.2.1]⟩
  case rem => exact ⟨_, H.2, fun t w => by simp [binOp, Op.intDiv, H.1]⟩
  all_goals exact ⟨_, H, fun t w => by simp [binOp, Op.intCmp, Op.intBits, bitsI] <;> (first | rfl | (by_cases hxy : x = y <;> simp [hxy]))⟩

theorem shW_sound {op : BinOp} {k k' : IntKind} {x y : Int} (H : intW op k x y h K) (ho : op = .shl ∨ op = .shr) : ∃ v, K v h ∧ ∀ (t : TypeId) (w : World), (binOp op t (.int k x) (.int k' y)).run P w = .ok v w := by
  rcases ho with rfl | rfl
  · obtain ⟨h0, h1, h2, h3⟩ := H
    refine ⟨_, h3, fun t w => ?_⟩
    have hm : min y.toNat k.bits = y.toNat := by omega
    simp [binOp, Op.shift, show ¬ y < 0 by omega, hm, wrap_inK h2]
  · obtain ⟨h0, h1, h3⟩ := H
    refine ⟨_, h3, fun t w => ?_⟩
    have hm : min y.toNat k.bits = y.toNat := by omega
    have hp : (0 : Int) ≤ 2 ^ y.toNat := Int.le_of_lt (Int.pow_pos (by omega))
    simp [binOp, Op.shift, show ¬ y < 0 by omega, hm, Int.fdiv_eq_ediv_of_nonneg x hp]

theorem bin_sound {op : BinOp} {t : TypeId} {x y : Operand} {yt : TypeId} {F : Prop} (H : binW op (ev e x) (ev e y) h K F) (hF : F → opSem P (.binOp op t x y yt) ty e h K) :
    opSem P (.binOp op t x y yt) ty e h K := by
  unfold binW at H
  split at H
  · rename_i k a k' b hx hy
    have hg : ∀ w, (eqGuard op t x y (.int k a) (.int k' b)).run P w = .ok () w := by
      intro w; unfold eqGuard; cases op <;> simp
    split at H
    · obtain ⟨v, hv, hr⟩ := shW_sound (P := P) (k' := k') H (.inl rfl)
      exact opSem_pure rfl v hv fun w hw => by simp [execOp, hx, hy, hg, hr]
    · obtain ⟨v, hv, hr⟩ := shW_sound (P := P) (k' := k') H (.inr rfl)
      exact opSem_pure rfl v hv fun w hw => by simp [execOp, hx, hy, hg, hr]
    · rename_i h1 h2
      obtain ⟨rfl, H⟩ := H
      obtain ⟨v, hv, hr⟩ := intW_sound (P := P) H h1 h2
      exact opSem_pure rfl v hv fun w hw => by simp [execOp, hx, hy, hg, hr]
  · rename_i s s' hx hy
    have hg : ∀ w, (eqGuard op t x y (.string s) (.string s')).run P w = .ok () w := by
      intro w; unfold eqGuard; cases op <;> simp
    unfold strW at H
    split at H
    · refine opSem_pure rfl _ H.2 fun w hw => ?_
      have : ¬ ((s.size + s'.size : Nat) : Int) > IntKind.i64.max := by
        have h1 := H.1
        have : IntKind.i64.max = 9223372036854775807 := by decide
        omega
      simp only [execOp, hx, hy, Sem.run_bind, hg, Result.andThen_ok, binOp, Op.stringOp, this, if_false, Sem.run_pure]
    · refine opSem_pure rfl _ H fun w hw => ?_
      simp only [execOp, hx, hy, Sem.run_bind, hg, Result.andThen_ok, binOp, Op.stringOp, Sem.run_pure, bits_size]
    · refine opSem_pure rfl _ H fun w hw => ?_
      simp only [execOp, hx, hy, Sem.run_bind, hg, Result.andThen_ok, binOp, Op.stringOp, Sem.run_pure, bits_size]
    · exact hF H
  · exact hF H

theorem call_run {f : FuncId} {args : Array Value} (hb : bodied P f = true) (w : World) : (callFunc f args).run P w = .ok (.enter f args) w := by
  unfold bodied at hb
  cases hf : P.funcs[f]? with
  | none => simp [hf] at hb
  | some fn =>
    simp only [hf, Bool.and_eq_true, Bool.not_eq_true'] at hb
    have h2 : fn.body.isNone = false := by cases hbd : fn.body <;> simp_all
    simp only [callFunc, Sem.run_bind, run_program, Result.andThen_ok, hf, hb.1, h2, Bool.false_eq_true, if_false, Sem.run_pure]

theorem call_sound {f : Operand} {args : Array Operand} {ats : Array TypeId} {F : Prop} (H : callV P (ev e f) (args.map (ev e)) h K F)
    (hF : F → opSem P (.call { callee := .value f, args := args, argTypes := ats }) ty e h K) : opSem P (.call { callee := .value f, args := args, argTypes := ats }) ty e h K := by
  unfold callV at H
  split at H
  · rename_i g first caps hf
    refine ⟨rfl, fun w hw => ?_⟩
    have : (execOp (ev e) { dst := none, op := .call { callee := .value f, args := args, argTypes := ats }, type := ty, pos := "", after := #[], guard := none }).run P w = .ok (.enter g (first ++ args.map (ev e) ++ caps)) w := by
      simp only [execOp, resolve, hf, Deferred.ofValue, invoke, Sem.run_bind, Sem.run_pure, Result.andThen_ok, call_run H.1]
    rw [this]
    exact ⟨Rest.refl w, H.2 w hw⟩
  · exact hF H

end sound

/-! ### soundness of the further operations -/
section pv
variable {P : Program} {e : Env} {h : Heap} {K : Value → Heap → Prop} {F : Prop}
def runs (P : Program) (e : Env) (o : Op) (v : Value) : Prop := ∀ (ty : TypeId) (w : World), (execOp (ev e) { dst := none, op := o, type := ty, pos := "", after := #[], guard := none }).run P w = .ok (.value v) w

theorem blt_sound {b : Builtin} {args : Array Operand} {ats : Array TypeId} (H : bltW b (args.map (ev e)).toList ((ats[0]?).bind P.underlying) h K F) :
    F ∨ ∃ v, K v h ∧ runs P e (.call { callee := .builtin b, args, argTypes := ats }) v := by
  unfold bltW at H
  split at H
  · rename_i a n c el hvs hd
    right
    obtain ⟨t, ht, hu⟩ := Option.bind_eq_some_iff.1 hd
    have hargs : args.map (ev e) = #[.slice a n c] := by apply Array.toList_inj.1; simpa using hvs
    refine ⟨_, H, fun ty w => ?_⟩
    simp [execOp, resolve, invoke, builtin, Builtin.len_, hargs, ht, run_underlying hu, goInt]
  · rename_i s hvs hd
    right
    obtain ⟨t, ht, hu⟩ := Option.bind_eq_some_iff.1 hd
    have hargs : args.map (ev e) = #[.string s] := by apply Array.toList_inj.1; simpa using hvs
    refine ⟨_, H, fun ty w => ?_⟩
    simp [execOp, resolve, invoke, builtin, Builtin.len_, hargs, ht, run_underlying hu, goInt]
  · rename_i d0 k x k' y hvs
    right
    have hargs : args.map (ev e) = #[.int k x, .int k' y] := by apply Array.toList_inj.1; simpa using hvs
    refine ⟨_, H, fun ty w => ?_⟩
    simp [execOp, resolve, invoke, builtin, Builtin.min_, hargs, Builtin.min2]
  · rename_i d0 k x k' y hvs
    right
    have hargs : args.map (ev e) = #[.int k x, .int k' y] := by apply Array.toList_inj.1; simpa using hvs
    refine ⟨_, H, fun ty w => ?_⟩
    simp [execOp, resolve, invoke, builtin, Builtin.max_, hargs, Builtin.max2]
  · exact .inl H

theorem foldl_splice (vs : List Value) : ∀ (off k : Nat) (cs : Array Value), off + k + vs.length ≤ cs.size →
    ((vs.zipIdx k).foldl (fun cs (p : Value × Nat) => cs.setIfInBounds (off + p.2) p.1) cs) = (splice cs.toList (off + k) vs).toArray := by
  induction vs with
  | nil => intro off k cs _; simp [splice]
  | cons v vs ih =>
    intro off k cs hle
    simp only [List.zipIdx_cons, List.foldl_cons]
    have := ih off (k + 1) (cs.setIfInBounds (off + k) v) (by simp at hle ⊢; omega)
    rw [this]
    congr 1
    unfold splice
    have h1 : (cs.setIfInBounds (off + k) v).toList = cs.toList.set (off + k) v := by simp
    simp only [List.length_cons] at hle
    rw [h1]
    apply List.ext_getElem?
    intro i
    simp only [List.append_assoc, List.getElem?_append, List.length_take, List.length_set, Array.length_toList, List.getElem?_take, List.getElem?_drop, List.getElem?_set, List.cons_append, List.length_cons]
    have e1 : min (off + (k + 1)) cs.size = off + k + 1 := by omega
    have e2 : min (off + k) cs.size = off + k := by omega
    rw [e1, e2]
    by_cases c1 : i < off + k
    · rw [if_pos (by omega), if_pos (by omega), if_pos c1, if_pos c1]
      simp [show ¬ off + k = i by omega]
    · by_cases c2 : i = off + k
      · subst c2
        simp
        omega
      · rw [if_neg (by omega), if_neg c1]
        have : i - (off + k) = (i - (off + k + 1)) + 1 := by omega
        rw [this]
        simp only [List.getElem?_cons_succ]
        rw [List.getElem?_append]
        by_cases c3 : i - (off + k + 1) < vs.length
        · simp [c3]
        · simp only [c3, if_false, List.getElem?_drop]
          rw [if_neg (by omega)]
          congr 1
          omega

theorem fillL_eq {pl : Nat → Option (Nat × Nat)} : ∀ (parts : List (Nat × Value)) (cells : Array Value) (r : List Value), fillL pl cells.toList parts = some r → Instr.fill pl cells parts = some r.toArray
  | [], cells, r, H => by simp only [fillL, Option.some.injEq] at H; subst H; simp [Instr.fill]
  | (i, v) :: rest, cells, r, H => by
    simp only [fillL] at H
    split at H
    · rename_i off size hpl
      split at H
      · rename_i hc
        obtain ⟨h1, h2⟩ := hc
        have hle : off + v.cells.size ≤ cells.size := by simpa [h1] using h2
        have hf := foldl_splice v.cells.toList off 0 cells (by simpa using hle)
        simp only [Nat.add_zero] at hf
        have : Array.foldl (fun cs x => cs.setIfInBounds (off + x.2) x.1) cells v.cells.zipIdx = (splice cells.toList off v.cells.toList).toArray := by
          rw [← hf, ← Array.foldl_toList, Array.toList_zipIdx]
        have ih := fillL_eq rest (splice cells.toList off v.cells.toList).toArray r (by simpa using H)
        simp only [Instr.fill, hpl]
        rw [if_neg (by simp [h1]; omega)]
        rw [← ih, ← this]
      · cases H
    · cases H

theorem run_mapM_pure {α β : Type} (P : Program) (w : World) (f : α → Sem β) (g : α → β) : ∀ (l : List α), (∀ x ∈ l, (f x).run P w = .ok (g x) w) → (l.mapM f).run P w = .ok (l.map g) w
  | [], _ => by simp
  | x :: xs, hl => by
    have ih := run_mapM_pure P w f g xs (fun y hy => hl y (List.mem_cons_of_mem _ hy))
    rw [List.mapM_cons, Sem.run_bind, hl x (List.mem_cons_self ..)]
    simp only [Result.andThen_ok, Sem.run_bind, ih, Sem.run_pure, List.map_cons]

theorem bld_sound {t : TypeId} {parts : Array (Nat × Operand)} (H : bldW P t (parts.map fun (i, x) => (i, ev e x)).toList h K F) : F ∨ ∃ v, K v h ∧ runs P e (.build t parts) v := by
  unfold bldW at H
  split at H
  · rename_i z hok hz
    right
    rw [onC_iff] at H
    obtain ⟨r, hr, hk⟩ := H
    refine ⟨_, hk, fun ty w => ?_⟩
    unfold okFields at hok
    split at hok
    · rename_i fs hu
      have hz' : (zeroValue t).run P w = .ok z w := by
        unfold zeroT at hz
        cases hi : P.info? t with
        | none => simp [hi] at hz
        | some i => simp only [hi, Option.bind_some] at hz; simp [zeroValue, typeInfo, hi, hz]
      have hm : (fs.mapM fun f => (do pure (f.offset, ← sizeOf f.type) : Sem (Nat × Nat))).run P w = .ok (fs.map fun f => (f.offset, szT P f.type)) w := by
        have : fs = fs.toList.toArray := by simp
        rw [this, List.mapM_toArray, Sem.run_map, run_mapM_pure P w _ (fun f => (f.offset, szT P f.type))]
        · simp only [Result.andThen_ok]
          congr 1
          apply Array.toList_inj.1
          simp
        · intro f hf
          have hs : (P.info? f.type).isSome = true := Array.all_eq_true_iff_forall_mem.1 hok f (by simpa using hf)
          obtain ⟨i, hi⟩ := Option.isSome_iff_exists.1 hs
          simp [sizeOf, typeInfo, hi, szT]
      have hpl : (fun i => (fs.map fun f => (f.offset, szT P f.type))[i]?) = fieldPS P t := by
        funext i
        simp only [fieldPS, hu, Array.getElem?_map]
        cases hf : fs[i]? with
        | none => rfl
        | some fd =>
          have hs : (P.info? fd.type).isSome = true := Array.all_eq_true_iff_forall_mem.1 hok fd (Array.mem_of_getElem? hf)
          simp [hs]
      have hfill := fillL_eq _ _ _ hr
      simp only [execOp, Instr.build, Sem.run_bind, hz', Result.andThen_ok, run_underlying hu]
      rw [hm]
      simp only [Result.andThen_ok]
      rw [hpl, hfill]
      simp
    · cases hok
  · exact .inl H

theorem bnd_run {v : Value} {n : Int} {d : Nat} (hb : bnd (some v) d = some n) (y : Nat) (code : BoundsCode) (h0 : 0 ≤ n) (h1 : n ≤ y) (w : World) : (Instr.sliceBound v y code).run P w = .ok n.toNat w := by
  cases v <;> simp [bnd] at hb
  subst hb
  simp [Instr.sliceBound, asIntOf, h0, h1]

theorem bounds_sound {isSlice : Bool} {len cap : Nat} {lo hi mx : Option Value} {l r m : Int} (hl : bnd lo 0 = some l) (hr : (match mx, hi with | some _, none => none | _, hi => bnd hi len) = some r) (hm : bnd mx cap = some m)
    (h0 : 0 ≤ l) (h1 : l ≤ r) (h2 : r ≤ m) (h3 : m ≤ cap) (w : World) : (Instr.sliceBounds isSlice len cap lo hi mx).run P w = .ok (l.toNat, r.toNat, m.toNat) w := by
  have hrm : (r : Int) ≤ (m.toNat : Int) := by omega
  have hlr : (l : Int) ≤ (r.toNat : Int) := by omega
  unfold Instr.sliceBounds
  cases mx with
  | none =>
    simp only [bnd, Option.some.injEq] at hm
    subst hm
    cases hi with
    | none =>
      simp only [bnd, Option.some.injEq] at hr
      subst hr
      cases lo with
      | none => simp only [bnd, Option.some.injEq] at hl; subst hl; simp
      | some v => simp [bnd_run (P := P) hl len _ h0 h1 w]
    | some u =>
      cases lo with
      | none => simp only [bnd, Option.some.injEq] at hl; subst hl; simp [bnd_run (P := P) hr cap _ (by omega) h2 w]
      | some v => simp [bnd_run (P := P) hr cap _ (by omega) h2 w, bnd_run (P := P) hl r.toNat _ h0 hlr w]
  | some x =>
    cases hi with
    | none => cases hr
    | some u =>
      cases lo with
      | none => simp only [bnd, Option.some.injEq] at hl; subst hl; simp [bnd_run (P := P) hm cap _ (by omega) h3 w, bnd_run (P := P) hr m.toNat _ (by omega) hrm w]
      | some v => simp [bnd_run (P := P) hm cap _ (by omega) h3 w, bnd_run (P := P) hr m.toNat _ (by omega) hrm w, bnd_run (P := P) hl r.toNat _ h0 hlr w]

theorem sliceV_sound {a : Option Addr} {cap : Nat} {el : TypeId} {l r m : Int} (H : sliceVW P a cap el l r m h K) :
    K (.slice (if m.toNat = l.toNat then a else a.map (·.add (l.toNat * szT P el))) (r.toNat - l.toNat) (m.toNat - l.toNat)) h ∧ (P.info? el).isSome = true ∧ 0 ≤ l ∧ l ≤ r ∧ r ≤ m ∧ m ≤ cap := by
  obtain ⟨hi, h0, h1, h2, h3, hk⟩ := H
  refine ⟨?_, hi, h0, h1, h2, h3⟩
  have e1 : (m.toNat = l.toNat) = (m = l) := propext (by omega)
  have e2 : r.toNat - l.toNat = (r - l).toNat := by omega
  have e3 : m.toNat - l.toNat = (m - l).toNat := by omega
  rw [e2, e3]
  simp only [e1]
  exact hk

theorem slc_sound {t : TypeId} {x : Operand} {lo hi mx : Option Operand} (H : slcW P (ev e x) (P.underlying t) (lo.map (ev e)) (hi.map (ev e)) (mx.map (ev e)) h K F) :
    F ∨ ∃ v, K v h ∧ runs P e (.slice t x lo hi mx) v := by
  unfold slcW at H
  split at H
  · rename_i s hx hu hmx
    right
    split at H
    · rename_i l r hl hr
      obtain ⟨h0, h1, h2, hk⟩ := H
      refine ⟨_, hk, fun ty w => ?_⟩
      have hb := bounds_sound (P := P) (isSlice := false) (len := s.size) (cap := s.size) (mx := none) hl (by simpa using hr) rfl h0 h1 h2 (by omega) w
      simp only [execOp, Instr.sliceAt, Instr.slice, hx, hmx, Sem.run_bind, run_underlying hu, Result.andThen_ok]
      simp [hb]
    · exact H.elim
  · rename_i a len cap el hx hu
    right
    split at H
    · rename_i l r m hl hr hm
      obtain ⟨hk, hi, h0, h1, h2, h3⟩ := sliceV_sound H
      refine ⟨_, hk, fun ty w => ?_⟩
      have hb := bounds_sound (P := P) (isSlice := true) (len := len) (cap := cap) hl hr hm h0 h1 h2 h3 w
      obtain ⟨inf, hi⟩ := Option.isSome_iff_exists.1 hi
      simp only [execOp, Instr.sliceAt, Instr.slice, hx, Sem.run_bind, run_underlying hu, Result.andThen_ok, hb]
      simp [sizeOf, typeInfo, hi, szT]
    · exact H.elim
  · rename_i a n el hx hu hmx
    right
    split at H
    · rename_i l r hl hr
      obtain ⟨hk, hi, h0, h1, h2, h3⟩ := sliceV_sound H
      refine ⟨_, hk, fun ty w => ?_⟩
      have hb := bounds_sound (P := P) (isSlice := false) (len := n) (cap := n) (mx := none) hl (by simpa using hr) rfl h0 h1 h2 (by omega) w
      obtain ⟨inf, hi⟩ := Option.isSome_iff_exists.1 hi
      simp only [execOp, Instr.sliceAt, hx, hmx, Instr.sureAddr, Sem.run_bind, run_underlying hu, Result.andThen_ok, Sem.run_pure, hb]
      simp only [sizeOf, typeInfo, Sem.run_bind, run_program, Result.andThen_ok, hi, Sem.run_pure, szT, Option.map_some, Option.getD_some, Int.toNat_natCast]
      congr 3
      split <;> simp_all
    · exact H.elim
  · exact .inl H

theorem ids_sound {t : TypeId} {x i : Operand} (H : idsW (ev e x) (ev e i) (P.underlying t) h K F) : F ∨ ∃ v, K v h ∧ runs P e (.index t x i) v := by
  unfold idsW at H
  split at H
  · rename_i s k n hx hi hu
    right
    obtain ⟨⟨h0, h1⟩, hk⟩ := H
    refine ⟨_, hk, fun ty w => ?_⟩
    have hlt : n.toNat < s.size := by omega
    have hg : s[n.toNat]? = some s[n.toNat] := by simp [hlt]
    have hd : s.data.getD n.toNat 0 = s[n.toNat] := by
      rw [Array.getD_eq_getD_getElem?, Array.getElem?_eq_getElem hlt]; rfl
    simp [execOp, Instr.index, hx, hi, asIntOf, run_underlying hu, h0, hg, hd]
  · exact .inl H

theorem part_sound {t : TypeId} {cs : Array Value} {off : Nat} (H : partW P t cs.toList off h K) : ∃ v, K v h ∧ ∀ w : World, (part t cs off).run P w = .ok v w := by
  unfold partW at H
  split at H
  · rename_i ha
    obtain ⟨hi, hk⟩ := H
    obtain ⟨inf, hi⟩ := Option.isSome_iff_exists.1 hi
    refine ⟨_, hk, fun w => ?_⟩
    have : cs.extract off (off + inf.size) = ((cs.toList.drop off).take inf.size).toArray := by
      apply Array.toList_inj.1
      simp [Array.toList_extract]
    simp [part, aggT_run ha, sizeOf, typeInfo, hi, szT, this]
  · rename_i ha
    rw [onV_iff] at H
    obtain ⟨v, hv, hk⟩ := H
    refine ⟨v, hk, fun w => ?_⟩
    have : cs[off]? = some v := by simpa using hv
    simp [part, aggT_run ha, this]
  · exact H.elim
theorem fld_sound {t : TypeId} {x : Operand} {f : Nat} (H : fldW P (ev e x) (fieldOT P t f) h K F) : F ∨ ∃ v, K v h ∧ runs P e (.field t x f) v := by
  unfold fldW at H
  split at H
  · rename_i cs off u hx hf
    right
    obtain ⟨v, hk, hr⟩ := part_sound H
    refine ⟨v, hk, fun ty w => ?_⟩
    unfold fieldOT at hf
    split at hf
    · rename_i fs hu
      obtain ⟨fd, hfd, he⟩ := Option.map_eq_some_iff.1 hf
      cases he
      simp [execOp, Instr.field, hx, run_underlying hu, hfd, asAgg, hr]
    · cases hf
  · exact .inl H
theorem neg_sound {t : TypeId} {x : Operand} (H : negW (ev e x) h K F) : F ∨ ∃ v, K v h ∧ runs P e (.unOp .neg t x) v := by
  unfold negW at H
  split at H
  · rename_i k n hx
    right
    exact ⟨_, H.2, fun ty w => by
      have := wrap_inK H.1
      simp only [execOp, hx, Op.unary, Op.intArith, this, Sem.run_bind, Sem.run_pure, Result.andThen_ok]⟩
  · exact .inl H
theorem pvW_sound {o : Op} (H : pvW P o e h K F) : F ∨ (noDefer o = true ∧ ∃ v, K v h ∧ runs P e o v) := by
  unfold pvW at H
  split at H
  · exact (blt_sound H).imp id fun h => ⟨rfl, h⟩
  · exact (bld_sound H).imp id fun h => ⟨rfl, h⟩
  · exact (slc_sound H).imp id fun h => ⟨rfl, h⟩
  · exact (ids_sound H).imp id fun h => ⟨rfl, h⟩
  · exact (fld_sound H).imp id fun h => ⟨rfl, h⟩
  · exact (neg_sound H).imp id fun h => ⟨rfl, h⟩
  · exact .inl H

theorem zeros_eq (z : Array Value) (n : Nat) : ((Array.range (n * z.size)).map fun i => z[i % z.size]!) = (List.replicate n z.toList).flatten.toArray := by
  apply Array.toList_inj.1
  simp only [Array.toList_map, Array.toList_range]
  induction n with
  | zero => simp
  | succ n ih =>
    rw [List.replicate_succ', List.flatten_concat, ← ih, Nat.succ_mul, List.range_add, List.map_append]
    congr 1
    simp only [List.map_map]
    apply List.ext_getElem
    · simp
    · intro i h1 h2
      simp only [List.length_map, List.length_range] at h1
      simp [Nat.add_mod, Nat.mod_eq_of_lt h1, h1]
theorem alcW_sound {o : Op} {ty : TypeId} (H : alcW P o ty e h K) : opSem P o ty e h K := by
  unfold alcW at H
  split at H
  · rename_i t n parts
    unfold bslW at H
    split at H
    · rename_i el hu
      split at H
      · rename_i z hz
        obtain ⟨hs, h0, hn, H⟩ := H
        rw [onSome_iff] at H
        obtain ⟨cs, hcs, hk⟩ := H
        refine opSem_value rfl _ _ hk fun w hw => ?_
        subst hw
        refine ⟨{ w with heap := w.heap.push (.cells cs.toArray el) }, ?_, rfl, rfl, rfl, rfl⟩
        unfold zeroT at hz
        cases hi : P.info? el with
        | none => simp [hi] at hz
        | some i =>
          simp only [hi, Option.bind_some] at hz
          have hsz : szT P el = i.size := by simp [szT, hi]
          rw [hsz] at hs h0 hn hcs
          have hfill : Instr.fill (fun j => some (j * i.size, i.size)) (List.replicate n z.cells.toList).flatten.toArray (parts.map fun (i, x) => (i, ev e x)).toList = some cs.toArray :=
            fillL_eq _ _ _ (by simpa only [List.toList_toArray] using hcs)
          by_cases hn0 : n * i.size = 0
          · have : n = 0 := by rcases Nat.mul_eq_zero.1 hn0 with h | h <;> omega
            subst this
            simp only [List.replicate_zero, List.flatten_nil] at hfill
            simp only [execOp, Instr.buildSlice, Sem.run_bind, run_underlying hu, Result.andThen_ok, sizeOf, typeInfo, run_program, hi, Sem.run_pure, Nat.zero_mul, show Array.range 0 = #[] from rfl, Array.map_empty, if_true, Sem.run_ite]
            rw [if_neg (by omega)]
            simp only [hfill, Sem.run_bind, newRow, run_newObj, Result.andThen_ok, Sem.run_pure]
            first | done | simp
          · have hzr := zeros_eq z.cells n
            rw [hs] at hzr
            simp only [execOp, Instr.buildSlice, Sem.run_bind, run_underlying hu, Result.andThen_ok, sizeOf, typeInfo, run_program, hi, Sem.run_pure, if_neg (show ¬ n * i.size > 2 ^ 24 by omega), if_neg hn0, zeroValue, hz, Sem.run_ite, hs, hzr]
            simp only [hfill, Sem.run_bind, newRow, run_newObj, Result.andThen_ok, Sem.run_pure]
      · exact H
    · exact H
  · rename_i t lo co
    unfold mksW at H
    split at H
    · rename_i el kl l kc c hu hl hc
      split at H
      · rename_i z hz
        obtain ⟨hs, h0, hl0, hlc, hb, h63, hk⟩ := H
        refine opSem_value rfl _ _ hk fun w hw => ?_
        subst hw
        refine ⟨{ w with heap := w.heap.push (.cells (List.replicate c.toNat z.cells.toList).flatten.toArray el) }, ?_, rfl, rfl, rfl, rfl⟩
        unfold zeroT at hz
        cases hi : P.info? el with
        | none => simp [hi] at hz
        | some i =>
          simp only [hi, Option.bind_some] at hz
          have hsz : szT P el = i.size := by simp [szT, hi]
          have hby : bytesT P el = i.bytes := by simp [bytesT, hi]
          rw [hsz] at hs h0
          rw [hby] at hb
          have wl : IntKind.i64.wrap l = l := IntWalk.i64_in l ⟨by omega, by omega⟩
          have wc : IntKind.i64.wrap c = c := IntWalk.i64_in c ⟨by omega, by omega⟩
          have hbb : ¬ ((i.bytes : Int) * c > 2 ^ 48) := by
            rw [Int.mul_comm]; have : (2 : Int) ^ 48 = 281474976710656 := by decide
            omega
          have hbb2 : ¬ (281474976710656 < (i.bytes : Int) * c) := by rw [Int.mul_comm]; omega
          have hzr := zeros_eq z.cells c.toNat
          rw [hs] at hzr
          by_cases hn0 : c.toNat * i.size = 0
          · have : c.toNat = 0 := by rcases Nat.mul_eq_zero.1 hn0 with h | h <;> omega
            simp [execOp, Instr.makeSlice, run_underlying hu, hl, hc, asInt, asIntOf, typeInfo, hi, wl, wc, hbb2, show ¬ c < 0 by omega, show ¬ l < 0 by omega, show ¬ c < l by omega, sizeOf, this, newRow, show Array.range 0 = #[] from rfl]
          · simp only [execOp, Instr.makeSlice, run_underlying hu, hl, hc, asInt, asIntOf, Sem.run_bind, Sem.run_pure, Result.andThen_ok, typeInfo, run_program, hi, wl, wc, sizeOf, zeroValue, hz, Sem.run_ite, run_askRoom, if_neg hn0, hs, hzr, newRow, run_newObj]
            rw [if_neg (by simp [hbb2, show ¬ c < 0 by omega, show ¬ l < 0 by omega, show ¬ c < l by omega])]
            rfl
      · exact H
    · exact H
  · refine opSem_value rfl _ _ H fun w hw => ?_
    subst hw
    exact ⟨{ w with heap := w.heap.push (.map #[] 0) }, by simp [execOp, Instr.makeMap], rfl, rfl, rfl, rfl⟩
  · exact H
end pv

section sound
variable {P : Program} {ty : TypeId} {e : Env} {h : Heap} {K : Value → Heap → Prop}
theorem opW_sound {o : Op} (H : opW P o ty e h K) : opSem P o ty e h K := by
  have oth : ∀ {o : Op}, pvW P o e h K (alcW P o ty e h K) → opSem P o ty e h K := fun H => by
    rcases pvW_sound H with h1 | ⟨hd, v, hk, hr⟩
    · exact alcW_sound h1
    · exact opSem_pure hd v hk fun w _ => hr ty w
  cases o
  case move x => exact opSem_pure rfl _ H fun w hw => rfl
  case assign x => exact opSem_pure rfl _ H fun w hw => rfl
  case pick c a b =>
    simp only [opW] at H
    split at H
    · rename_i t ht
      exact opSem_pure rfl _ H fun w hw => by simp [execOp, ht, asBool]
    · exact H.elim
  case alloc t =>
    simp only [opW, onSome_iff] at H
    obtain ⟨z, hz, hk⟩ := H
    refine opSem_value rfl _ _ hk fun w hw => ?_
    subst hw
    unfold zeroT at hz
    cases hi : P.info? t with
    | none => simp [hi] at hz
    | some i =>
      simp only [hi, Option.bind_some] at hz
      exact ⟨{ w with heap := w.heap.push (.cells z.cells t) }, by simp [execOp, Instr.alloc, zeroValue, typeInfo, hi, hz, newVar, newRow], rfl, rfl, rfl, rfl⟩
  case box t x =>
    refine opSem_value rfl _ _ H fun w hw => ?_
    subst hw
    exact ⟨{ w with heap := w.heap.push (.cells (ev e x).cells t) }, by simp [execOp, Instr.box, newVar, newRow], rfl, rfl, rfl, rfl⟩
  case load t x =>
    obtain ⟨v, hk, hr⟩ := load_sound (K := K) H
    exact opSem_pure rfl v hk fun w hw => by simp [execOp, hr w hw]
  case store t a x =>
    obtain ⟨h', hk, hr⟩ := store_sound (K := K) H
    refine ⟨rfl, fun w hw => ?_⟩
    obtain ⟨w', h1, h2, h3⟩ := hr w hw
    have : (execOp (ev e) { dst := none, op := .store t a x, type := ty, pos := "", after := #[], guard := none }).run P w = .ok .skip w' := by simp [execOp, h1]
    rw [this]
    exact ⟨h2 ▸ hk, h3⟩
  case fieldAddr s x f =>
    simp only [opW] at H
    split at H
    · rename_i a ha
      obtain ⟨hsp, H⟩ := H
      rw [onSome_iff] at H
      obtain ⟨off, ho, hk⟩ := H
      unfold fieldOff at ho
      split at ho
      · rename_i fs hu
        split at ho
        · rename_i fd hfd
          split at ho
          · rename_i hsz
            cases ho
            simp only [Bool.and_eq_true, decide_eq_true_eq] at hsz
            obtain ⟨inf, hi⟩ := Option.isSome_iff_exists.1 hsz.1
            have hs : inf.size ≠ 0 := by simpa [szT, hi] using hsz.2
            refine opSem_pure rfl _ hk fun w hw => ?_
            simp [execOp, ha, Instr.fieldAt, run_underlying hu, hfd, Instr.sureAddr, fieldPlace, addA_eq, sizeOf, typeInfo, hi, hs]
          · cases ho
        · cases ho
      · cases ho
    · exact H.elim
  case indexAddr t x i =>
    obtain ⟨v, hk, hr⟩ := idx_sound (K := K) H
    exact opSem_pure rfl v hk fun w hw => by simp [execOp, hr w]
  case nilCheck x =>
    simp only [opW] at H
    split at H
    · rename_i a ha
      exact opSem_pure rfl _ H fun w hw => by simp [execOp, ha]
    · exact H
  case binOp op t x y yt => exact bin_sound H id
  case unOp op t x =>
    cases op <;> simp only [opW] at H <;> try exact oth H
    split at H
    · rename_i b hb
      exact opSem_pure rfl _ H fun w hw => by simp [execOp, hb, Op.unary]
    · exact H.elim
  case convert s d x =>
    simp only [opW] at H
    split at H
    · rename_i hx hu hs
      obtain ⟨hin, hk⟩ := H
      refine opSem_pure rfl _ hk fun w hw => ?_
      simp [execOp, hx, convert, run_underlying hu, run_underlying hs, Conv.intToInt, wrap_inK hin]
    · exact H
  case extract x i =>
    simp only [opW] at H
    split at H
    · rename_i vs hv
      rw [onV_iff] at H
      obtain ⟨v, h1, hk⟩ := H
      exact opSem_pure rfl v hk fun w hw => by simp [execOp, hv, Instr.extract, h1]
    · exact H.elim
  case makeFunc fn first caps => exact opSem_pure rfl _ H fun w hw => by simp [execOp, Instr.makeFunc]
  case call c =>
    obtain ⟨cal, args, ats⟩ := c
    cases cal with
    | value f => exact call_sound H id
    | _ => exact oth H
  all_goals exact oth H
end sound

/-! ### soundness of the code's condition -/
section code
variable {l : Option Nat} {P : Program}

theorem fen_depth (l : Option Nat) : (fen l).depth = none := rfl
theorem callsIn_of (F : Option Nat) {f : FuncId} {args : Array Value} {w : World} {R : Ending → World → Prop} (H : Calls P f args w R) : CallsIn (fen F) 0 P f args w R :=
  (callsIn_wide (n := 0)).2 H
theorem semAt_noDefer {o : Oper} (h : noDefer o.op = true) (ro : Option Nat) (ρ : Operand → Value) : o.semAt ro ρ = execOp ρ o :=
  Oper.semAt_eq ro ρ o fun c hc => by rw [hc] at h; cases h
theorem execOp_only (ρ : Operand → Value) (o : Oper) : execOp ρ o = execOp ρ { dst := none, op := o.op, type := o.type, pos := "", after := #[], guard := none } := rfl

/-- One operation, into the kit's own wp. -/
theorem wpIn_of_opSem {o : Oper} {e : Env} {d : List Deferred} {w : World} {next : Act → World → Prop} {Q : Exit → Act → World → Prop}
    (H : opSem P o.op o.type e w.heap (fun v h' => ∀ w', w'.heap = h' → Rest w w' → next ⟨(putE e o.dst v).toArray, d⟩ w')) : o.wpIn (fen l) 0 P ⟨e.toArray, d⟩ w next Q := by
  refine ⟨fun _ _ => trivial, ?_⟩
  have h1 := H.2 w rfl
  rw [eval_ev, semAt_noDefer H.1, execOp_only]
  unfold semPost at h1
  split at h1
  · rename_i v w' hr
    rw [hr]
    simp only [Oper.uponIn, put_putE]
    exact h1.1 w' rfl h1.2
  · rename_i w' hr
    rw [hr]
    simp only [Oper.uponIn, put_putE]
    exact h1.1 w' rfl h1.2
  · rename_i f args w' hr
    rw [hr]
    refine ⟨fun h => by simp [fen_depth] at h, CallsIn.mono (callsIn_of l h1.2) ?_⟩
    rintro e' w'' ⟨v, rfl, hv, hrest⟩
    simp only [put_putE]
    exact hv w'' rfl (h1.1.trans hrest)
  · rename_i l' f tmps asg body w' hr
    rw [hr]
    refine ⟨fun h => by simp [fen_depth] at h, RoundIn.mono (show RoundIn (fen l) 0 P l' f tmps asg body w' _ from h1.2) ?_⟩
    rintro e' w'' ⟨v, rfl, hv, hrest⟩
    simp only [put_putE]
    exact hv w'' rfl (h1.1.trans hrest)
  · exact h1.elim

theorem yielded_slot {all : List Oper} {e : Env} {j : Nat} :
    yielded all.toArray e.toArray j = match gslot all j with | none => none | some t => match e[t]? with | some (.bool b) => some b | _ => none := by
  unfold yielded gslot
  cases h : (all[j]?).bind (·.dst) with
  | none => simp [h]
  | some t =>
    simp only [List.getElem?_toArray, h, Option.bind_some]
    cases e[t]? with
    | none => rfl
    | some v => cases v <;> rfl

theorem set_bool_same {e : Env} {t : Nat} {b : Bool} (h : e.getD t undef = .bool b) (ht : t < e.length) : e.set t (.bool b) = e := by
  apply List.ext_getElem?
  intro i
  by_cases hi : t = i
  · subst hi
    simp [ht]
    simp [List.getD, List.getElem?_eq_getElem ht] at h
    exact h.symm
  · simp [hi]

theorem guard_sound {g : Option (Nat × Bool)} {all : List Oper} {e : Env} {A B : Env → Prop} (H : guardW g all e A B) (o : Oper) (hg : o.guard = g) :
    (Region.wanted o (yielded all.toArray e.toArray) = true ∧ A e) ∨ (Region.wanted o (yielded all.toArray e.toArray) = false ∧ B e) := by
  unfold guardW at H
  unfold Region.wanted
  rw [hg]
  split at H
  · exact .inl ⟨rfl, H⟩
  · rename_i j want
    simp only [yielded_slot]
    split at H
    · rename_i hs; right; simp [H]
    · rename_i t hs
      unfold boolW at H
      split at H
      · rename_i b hb
        have ht : t < e.length := by
          rcases Nat.lt_or_ge t e.length with h | h
          · exact h
          · simp [List.getD, List.getElem?_eq_none h, undef] at hb
        simp only [List.getElem?_eq_getElem ht]
        have hget : e.getD t undef = e[t] := by simp [List.getD, List.getElem?_eq_getElem ht]
        have hset := set_bool_same hb ht
        rw [hget] at hb
        rw [hb]
        cases b
        · have H := H.2 rfl
          simp only [hset] at H
          cases want
          · left; simpa using H
          · right; simpa using H
        · have H := H.1 rfl
          simp only [hset] at H
          cases want
          · right; simpa using H
          · left; simpa using H
      · rename_i vs hb
        right
        refine ⟨?_, H⟩
        rcases Nat.lt_or_ge t e.length with h | h
        · have hget : e.getD t undef = e[t] := by simp [List.getD, List.getElem?_eq_getElem h]
          rw [hget] at hb
          simp [List.getElem?_eq_getElem h, hb]
        · simp [List.getElem?_eq_none h]
      · exact H.elim

theorem execR_sound {all : List Oper} {k : Cont} {w0 : World} : ∀ (ops : List Oper) (e : Env) (d : List Deferred) (w : World), Rest w0 w → execR P all ops k e d w.heap →
    wpListIn (fen l) 0 P all.toArray (fun x a w' => k x a.tmps.toList a.defers w'.heap ∧ Rest w0 w') ops ⟨e.toArray, d⟩ w
  | [], e, d, w, hr, H => by simpa [wpListIn, hr, execR] using H
  | o :: rest, e, d, w, hr, H => by
    unfold execR at H
    unfold wpListIn
    rcases guard_sound H o rfl with ⟨hw, hA⟩ | ⟨hw, hB⟩
    · simp only [hw, if_true]
      refine wpIn_of_opSem (opSem_mono ?_ (opW_sound hA))
      intro v h' hk w' hw' hr'
      subst hw'
      exact execR_sound rest _ d w' (hr.trans hr') hk
    · simp only [hw, Bool.false_eq_true, if_false]
      refine ⟨fun _ _ => trivial, ?_⟩
      rw [put_putE]
      exact execR_sound rest _ d w hr hB

theorem toList_act (a : Act) : (⟨a.tmps.toList.toArray, a.defers⟩ : Act) = a := by cases a; simp

theorem cond_sound {c : Operand} {e : Env} {X Y : Env → Prop} (H : condW c e X Y) : ∃ b, ev e c = .bool b ∧ ((b = true → X e) ∧ (b = false → Y e)) := by
  unfold condW at H
  split at H
  · rename_i t
    unfold boolW at H
    split at H
    · rename_i b hb
      refine ⟨b, by simpa [ev] using hb, ?_⟩
      have ht : t < e.length := by
        rcases Nat.lt_or_ge t e.length with h | h
        · exact h
        · simp [List.getD, List.getElem?_eq_none h, undef] at hb
      have hset := set_bool_same hb ht
      refine ⟨fun h => ?_, fun h => ?_⟩
      · have := H.1 h
        subst h
        simpa [hset] using this
      · have := H.2 h
        subst h
        simpa [hset] using this
    · exact H.elim
    · exact H.elim
  · exact ⟨true, rfl, fun _ => H, (fun h => by cases h)⟩
  · exact ⟨false, rfl, (fun h => by cases h), fun _ => H⟩
  · exact H.elim

theorem WP_mono {c : Code} {k k' : Cont} {e : Env} {d : List Deferred} {h : Heap} (hk : ∀ x e d h, k x e d h → k' x e d h) (H : WP l P c k e d h) : WP l P c k' e d h :=
  fun w hw => wpIn_mono (H w hw) fun _ _ _ q => ⟨hk _ _ _ _ q.1, q.2⟩

theorem exec_sound : ∀ (c : Code) (k : Cont) (e : Env) (d : List Deferred) (h : Heap), exec l P c k e d h → WP l P c k e d h
  | .skip, k, e, d, h, H => fun w hw => wpIn_skip ⟨by subst hw; simpa [exec] using H, Rest.refl w⟩
  | .seq a b, k, e, d, h, H => by
    unfold exec at H
    have h1 := exec_sound a _ e d h H
    refine fun w hw => wpIn_seq (wpIn_mono (h1 w hw) ?_)
    rintro x a' w' ⟨hq, hr⟩
    cases x with
    | normal =>
      have h2 := exec_sound b k _ _ _ hq w' rfl
      rw [toList_act] at h2
      exact wpIn_mono h2 fun x a w'' q => ⟨q.1, hr.trans q.2⟩
    | _ => exact ⟨hq, hr⟩
  | .cond c x y, k, e, d, h, H => by
    unfold exec at H
    obtain ⟨b, hb, h1, h2⟩ := cond_sound H
    refine fun w hw => wpIn_cond_split (t := b) (by rw [eval_ev]; exact hb) (fun ht => exec_sound x k e d h (h1 ht) w hw) (fun ht => exec_sound y k e d h (h2 ht) w hw)
  | .block i c, k, e, d, h, H => by
    unfold exec at H
    have h1 := exec_sound c _ e d h H
    refine fun w hw => wpIn_block (wpIn_mono (h1 w hw) ?_)
    rintro x a' w' ⟨hq, hr⟩
    cases x with
    | exit j =>
      simp only [blockK] at hq
      simp only [Exit.inBlock]
      split
      · rename_i hj; rw [if_pos hj] at hq; exact ⟨hq, hr⟩
      · rename_i hj; rw [if_neg hj] at hq; exact ⟨hq, hr⟩
    | _ => exact ⟨hq, hr⟩
  | .region id ops false, k, e, d, h, H => fun w hw => by
    subst hw
    exact wpIn_region_list (by have := execR_sound (l := l) (w0 := w) ops.toList e d w (Rest.refl w) (by simpa [exec] using H); simpa using this)
  | .region id ops true, k, e, d, h, H => by simpa [exec] using H
  | .exit i, k, e, d, h, H => fun w hw => wpIn_exit ⟨by subst hw; simpa [exec] using H, Rest.refl w⟩
  | .ret, k, e, d, h, H => fun w hw => wpIn_ret ⟨by subst hw; simpa [exec] using H, Rest.refl w⟩
  | .label i, k, e, d, h, H => fun w hw => wpIn_label ⟨by subst hw; simpa [exec] using H, Rest.refl w⟩
  | .goto i, k, e, d, h, H => fun w hw => wpIn_goto ⟨by subst hw; simpa [exec] using H, Rest.refl w⟩
  | .loop c, k, e, d, h, H => by simpa [exec] using H
  | .rangeFunc f ps a b, k, e, d, h, H => by simpa [exec] using H
  | .scope c, k, e, d, h, H => by simpa [exec] using H
  | .refuse s, k, e, d, h, H => by simpa [exec] using H

/-- A loop: an invariant over frames and heaps, and a measure. -/
theorem WP_loop {c : Code} {k : Cont} {e : Env} {d : List Deferred} {h : Heap} (I : Env → List Deferred → Heap → Prop) (μ : Env → Heap → Nat) (h0 : I e d h)
    (round : ∀ e d h, I e d h → exec l P c (thenK (fun e' d' h' => I e' d' h' ∧ μ e' h' < μ e h) k) e d h) : WP l P (.loop c) k e d h := by
  intro w hw
  refine wpIn_loop (fun a w' => I a.tmps.toList a.defers w'.heap ∧ Rest w w') (fun a w' => μ a.tmps.toList w'.heap) ⟨by subst hw; simpa using h0, Rest.refl w⟩ ?_
  rintro a w' ⟨hI, hr⟩
  have h1 := exec_sound _ _ _ _ _ (round _ _ _ hI) w' rfl
  rw [toList_act] at h1
  refine wpIn_mono h1 ?_
  rintro x a' w'' ⟨hq, hr'⟩
  cases x with
  | normal => exact ⟨⟨hq.1, hr.trans hr'⟩, hq.2⟩
  | _ => exact ⟨hq, hr.trans hr'⟩

/-! ### functions -/
def resA (P : Program) : List ResultVar → Env → List Value → (Value → Heap → Prop) → Heap → Prop
  | [], _, acc, K, h => K (match acc with | [v] => v | vs => .tuple vs.toArray) h
  | .tmp t :: rs, e, acc, K, h => resA P rs e (acc ++ [e.getD t undef]) K h
  | .cell a t :: rs, e, acc, K, h => loadW P t (e.getD a undef) h (fun v h => resA P rs e (acc ++ [v]) K h)
def oneOr (vs : List Value) : Value := match vs with | [v] => v | vs => .tuple vs.toArray
def Marked (h : Heap) : List Deferred → Prop
  | [] => True
  | d :: ds => ∃ r, d = { target := .collected r, args := #[] } ∧ h[r]? = some (.deferred (some [])) ∧ Marked (h.setIfInBounds r (.deferred none)) ds
def unmark (h : Heap) : List Deferred → Heap
  | [] => h
  | d :: ds => match d.target with | .collected r => unmark (h.setIfInBounds r (.deferred none)) ds | _ => unmark h ds
def finW (P : Program) (rs : List ResultVar) (e : Env) (d : List Deferred) (h : Heap) (K : Value → Heap → Prop) : Prop :=
  Marked h d ∧ resA P rs e [] K (unmark h d)
def retK (P : Program) (rs : List ResultVar) (K : Value → Heap → Prop) : Cont := fun x e d h => match x with | .normal => finW P rs e d h K | .ret => finW P rs e d h K | _ => False

def resS (e : Env) (r : ResultVar) : Sem Value := match r with
  | .tmp t => pure (e.toArray.getD t undef)
  | .cell a t => do loadVar t (← asAddr (e.toArray.getD a undef))
theorem resA_sound {e : Env} {h : Heap} {K : Value → Heap → Prop} : ∀ (rs : List ResultVar) (acc : List Value), resA P rs e acc K h →
    ∃ vs, K (oneOr (acc ++ vs)) h ∧ ∀ w : World, w.heap = h → (rs.mapM (resS e)).run P w = Result.ok vs w
  | [], acc, H => ⟨[], by rw [List.append_nil]; exact H, fun w _ => by simp⟩
  | .tmp t :: rs, acc, H => by
    obtain ⟨vs, h3, h4⟩ := resA_sound rs _ H
    refine ⟨e.getD t undef :: vs, by simpa using h3, fun w hw => ?_⟩
    rw [List.mapM_cons, Sem.run_bind]
    simp [resS, h4 w hw]
  | .cell a t :: rs, acc, H => by
    obtain ⟨v, h1, h2⟩ := load_sound (K := fun v h => resA P rs e (acc ++ [v]) K h) H
    obtain ⟨vs, h3, h4⟩ := resA_sound rs _ h1
    refine ⟨v :: vs, by simpa using h3, fun w hw => ?_⟩
    have a1 : (resS e (.cell a t)).run P w = .ok v w := by
      have := h2 w hw
      have he : e.toArray.getD a undef = e.getD a undef := by simp
      simp only [resS, he]
      generalize e.getD a undef = p at *
      cases p <;> simp [Instr.loadAt, Instr.sureAddr] at this
      rename_i ad
      cases ad <;> simp [asAddr] at *
      exact this
    rw [List.mapM_cons, Sem.run_bind, a1]
    simp only [Result.andThen_ok, Sem.run_bind, h4 w hw, Sem.run_pure]
theorem results_sound {fn : Func} {e : Env} {h : Heap} {K : Value → Heap → Prop} (H : resA P fn.results.toList e [] K h) :
    ∃ v, K v h ∧ ∀ w : World, w.heap = h → (results fn e.toArray).run P w = .ok v w := by
  obtain ⟨vs, h1, h2⟩ := resA_sound _ _ H
  refine ⟨oneOr vs, by simpa using h1, fun w hw => ?_⟩
  have h3 := h2 w hw
  have hres : results fn e.toArray = (do let vs ← fn.results.mapM (resS e); pure (if h : vs.size = 1 then vs[0] else .tuple vs)) := rfl
  rw [hres]
  have : fn.results = fn.results.toList.toArray := by simp
  rw [this, List.mapM_toArray]
  rw [Sem.run_bind, Sem.run_map, h3]
  simp only [Result.andThen_ok, Sem.run_pure]
  congr 1
  match vs with
  | [] => simp [oneOr]
  | [v] => simp [oneOr]
  | v :: v' :: vs => simp [oneOr]

theorem leaves_sound {fn : Func} {e : Env} {K : Value → Heap → Prop} {w0 : World} : ∀ (d : List Deferred) (w : World), Rest w0 w → finW P fn.results.toList e d w.heap K →
    LeavesInM (fen none) 0 P fn e.toArray (fun x w' => ∃ v, x = .returned v ∧ K v w'.heap ∧ Rest w0 w') d .returning w
  | [], w, hr, H => by
    obtain ⟨_, H⟩ := H
    obtain ⟨vs, h1, h2⟩ := results_sound H
    exact ⟨_, h2 w rfl, _, rfl, h1, hr⟩
  | x :: ds, w, hr, H => by
    obtain ⟨⟨r, rfl, hb, hm⟩, H⟩ := H
    refine ⟨by simp, .inl ⟨r, _, rfl, run_takeDeferred hb, ?_⟩⟩
    refine leaves_sound ds _ (hr.trans ⟨rfl, rfl, rfl⟩) ⟨?_, ?_⟩
    · simpa [World.putObj] using hm
    · simpa [World.putObj, unmark] using H

theorem CallsH_of_exec {f : FuncId} {fn : Func} {c : Code} {args : Array Value} {h : Heap} {K : Value → Heap → Prop} (hf : P.funcs[f]? = some fn) (hb : fn.body = some c) (hbod : bodied P f = true)
    (H : exec none P c (retK P fn.results.toList K) (args.toList ++ List.replicate (fn.ntmps - args.size) undef) [] h) : CallsH P f args h K := by
  refine ⟨hbod, fun w hw => ?_⟩
  refine callsIn_wide.1 (callsIn_of_wp_marks (F := Fence.wide) (n := 0) hf hb trivial ?_ rfl)
  have h1 := exec_sound c _ _ _ _ H w hw
  have he : (args.toList ++ List.replicate (fn.ntmps - args.size) undef).toArray = args ++ Array.replicate (fn.ntmps - args.size) undef := by
    apply Array.toList_inj.1; simp
  rw [he] at h1
  refine wpIn_mono h1 ?_
  rintro x a w' ⟨hq, hr⟩
  cases x with
  | normal => have := leaves_sound (P := P) (fn := fn) a.defers w' hr hq; rw [Array.toArray_toList] at this; exact this
  | ret => have := leaves_sound (P := P) (fn := fn) a.defers w' hr hq; rw [Array.toArray_toList] at this; exact this
  | _ => exact hq.elim
end code

/-! ### the walk by rewriting: what is looked into, and what is not -/
section walk
variable {l : Option Nat} {P : Program}

theorem thenK_normal {n : Env → List Deferred → Heap → Prop} {k : Cont} {e : Env} {d : List Deferred} {h : Heap} : thenK n k .normal e d h = n e d h := eqi rfl
theorem thenK_ret {n : Env → List Deferred → Heap → Prop} {k : Cont} {e : Env} {d : List Deferred} {h : Heap} : thenK n k .ret e d h = k .ret e d h := eqi rfl
theorem thenK_exit {n : Env → List Deferred → Heap → Prop} {k : Cont} {i : Nat} {e : Env} {d : List Deferred} {h : Heap} : thenK n k (.exit i) e d h = k (.exit i) e d h := eqi rfl
theorem blockK_normal {i : Nat} {k : Cont} {e : Env} {d : List Deferred} {h : Heap} : blockK i k .normal e d h = k .normal e d h := eqi rfl
theorem blockK_ret {i : Nat} {k : Cont} {e : Env} {d : List Deferred} {h : Heap} : blockK i k .ret e d h = k .ret e d h := eqi rfl
theorem blockK_same {i : Nat} {k : Cont} {e : Env} {d : List Deferred} {h : Heap} : blockK i k (.exit i) e d h = k .normal e d h := by simp [blockK]
theorem blockK_other {i j : Nat} {k : Cont} {e : Env} {d : List Deferred} {h : Heap} (hij : j ≠ i) : blockK i k (.exit j) e d h = k (.exit j) e d h := by simp [blockK, hij]
theorem blockK_exit {i j : Nat} {k : Cont} {e : Env} {d : List Deferred} {h : Heap} : blockK i k (.exit j) e d h = if j = i then k .normal e d h else k (.exit j) e d h := eqi rfl
theorem retK_normal {rs : List ResultVar} {K : Value → Heap → Prop} {e : Env} {d : List Deferred} {h : Heap} : retK P rs K .normal e d h = finW P rs e d h K := eqi rfl
theorem retK_ret {rs : List ResultVar} {K : Value → Heap → Prop} {e : Env} {d : List Deferred} {h : Heap} : retK P rs K .ret e d h = finW P rs e d h K := eqi rfl
theorem onV_some {x : Value} {h : Heap} {K : Value → Heap → Prop} : onV (some x) K h = K x h := eqi rfl
theorem onC_some {x : List Value} {h : Heap} {K : Value → Heap → Prop} : onC (some x) K h = K (.agg x.toArray) h := eqi rfl
theorem stK_some {c : List Value} {ct : TypeId} {b off : Nat} {vs : List Value} {h : Heap} {K : Value → Heap → Prop} : stK (some (c, ct)) b off vs h K = (off + vs.length ≤ c.length ∧ K undef (updH h b (splice c off vs) ct)) := eqi rfl

/-- What follows an operation, its value being known. -/
def setK (P : Program) (all rest : List Oper) (k : Cont) (dst : Option Tmp) (e : Env) (d : List Deferred) : Value → Heap → Prop := fun v h => execR P all rest k (putE e dst v) d h
/-- A guarded operation, the guard's slot and value being known. -/
def gd (P : Program) (v : Value) (s : Tmp) (want : Bool) (op : Op) (ty : TypeId) (all rest : List Oper) (k : Cont) (dst : Option Tmp) (e : Env) (d : List Deferred) (h : Heap) : Prop :=
  boolW v (fun b => if b = want then opW P op ty (e.set s (.bool b)) h (setK P all rest k dst (e.set s (.bool b)) d) else execR P all rest k (putE (e.set s (.bool b)) dst undef) d h) (execR P all rest k (putE e dst undef) d h)
/-- A test, its slot and value being known. -/
def cd (l : Option Nat) (P : Program) (v : Value) (s : Tmp) (x y : Code) (k : Cont) (e : Env) (d : List Deferred) (h : Heap) : Prop :=
  boolW v (fun b => if b then exec l P x k (e.set s (.bool true)) d h else exec l P y k (e.set s (.bool false)) d h) False
section cds
variable {v : Value} {s : Tmp} {x y : Code} {k : Cont} {e : Env} {d : List Deferred} {h : Heap} {p : Prop} [Decidable p] {b : Bool}
theorem cd_true : cd l P (.bool true) s x y k e d h = exec l P x k (e.set s (.bool true)) d h := by simp [cd, boolW]
theorem cd_false : cd l P (.bool false) s x y k e d h = exec l P y k (e.set s (.bool false)) d h := by simp [cd, boolW]
theorem cd_dec : cd l P (.bool (decide p)) s x y k e d h = ((p → exec l P x k (e.set s (.bool true)) d h) ∧ (¬ p → exec l P y k (e.set s (.bool false)) d h)) := by
  by_cases hp : p <;> simp [cd, boolW, hp]
theorem cd_ndec : cd l P (.bool (!decide p)) s x y k e d h = ((p → exec l P y k (e.set s (.bool false)) d h) ∧ (¬ p → exec l P x k (e.set s (.bool true)) d h)) := by
  by_cases hp : p <;> simp [cd, boolW, hp]
theorem cd_bool : cd l P (.bool b) s x y k e d h = ((b = true → exec l P x k (e.set s (.bool true)) d h) ∧ (b = false → exec l P y k (e.set s (.bool false)) d h)) := by
  cases b <;> simp [cd, boolW]
variable {op : Op} {ty : TypeId} {all rest : List Oper} {dst : Option Tmp} {vs : Array Value}
theorem gd_tt : gd P (.bool true) s true op ty all rest k dst e d h = opW P op ty (e.set s (.bool true)) h (setK P all rest k dst (e.set s (.bool true)) d) := by simp [gd, boolW]
theorem gd_ff : gd P (.bool false) s false op ty all rest k dst e d h = opW P op ty (e.set s (.bool false)) h (setK P all rest k dst (e.set s (.bool false)) d) := by simp [gd, boolW]
theorem gd_tf : gd P (.bool true) s false op ty all rest k dst e d h = execR P all rest k (putE (e.set s (.bool true)) dst undef) d h := by simp [gd, boolW]
theorem gd_ft : gd P (.bool false) s true op ty all rest k dst e d h = execR P all rest k (putE (e.set s (.bool false)) dst undef) d h := by simp [gd, boolW]
theorem gd_undef {w : Bool} : gd P (.tuple vs) s w op ty all rest k dst e d h = execR P all rest k (putE e dst undef) d h := by simp [gd, boolW]
theorem gd_dec_t : gd P (.bool (decide p)) s true op ty all rest k dst e d h = ((p → opW P op ty (e.set s (.bool true)) h (setK P all rest k dst (e.set s (.bool true)) d)) ∧ (¬ p → execR P all rest k (putE (e.set s (.bool false)) dst undef) d h)) := by
  by_cases hp : p <;> simp [gd, boolW, hp]
theorem gd_dec_f : gd P (.bool (decide p)) s false op ty all rest k dst e d h = ((p → execR P all rest k (putE (e.set s (.bool true)) dst undef) d h) ∧ (¬ p → opW P op ty (e.set s (.bool false)) h (setK P all rest k dst (e.set s (.bool false)) d))) := by
  by_cases hp : p <;> simp [gd, boolW, hp]
theorem gd_ndec_t : gd P (.bool (!decide p)) s true op ty all rest k dst e d h = ((p → execR P all rest k (putE (e.set s (.bool false)) dst undef) d h) ∧ (¬ p → opW P op ty (e.set s (.bool true)) h (setK P all rest k dst (e.set s (.bool true)) d))) := by
  by_cases hp : p <;> simp [gd, boolW, hp]
theorem gd_ndec_f : gd P (.bool (!decide p)) s false op ty all rest k dst e d h = ((p → opW P op ty (e.set s (.bool false)) h (setK P all rest k dst (e.set s (.bool false)) d)) ∧ (¬ p → execR P all rest k (putE (e.set s (.bool true)) dst undef) d h)) := by
  by_cases hp : p <;> simp [gd, boolW, hp]
theorem gd_bool_t : gd P (.bool b) s true op ty all rest k dst e d h = ((b = true → opW P op ty (e.set s (.bool true)) h (setK P all rest k dst (e.set s (.bool true)) d)) ∧ (b = false → execR P all rest k (putE (e.set s (.bool false)) dst undef) d h)) := by
  cases b <;> simp [gd, boolW]
theorem gd_bool_f : gd P (.bool b) s false op ty all rest k dst e d h = ((b = true → execR P all rest k (putE (e.set s (.bool true)) dst undef) d h) ∧ (b = false → opW P op ty (e.set s (.bool false)) h (setK P all rest k dst (e.set s (.bool false)) d))) := by
  cases b <;> simp [gd, boolW]
end cds
theorem finW_nil {rs : List ResultVar} {e : Env} {h : Heap} {K : Value → Heap → Prop} : finW P rs e [] h K = resA P rs e [] K h := by simp [finW, Marked, unmark]
end walk

/-! ### the equations of the walk -/
section eqs
variable {l : Option Nat} {P : Program} {ty t : TypeId} {e : Env} {d : List Deferred} {h : Heap} {k : Cont} {K : Value → Heap → Prop}
theorem exec_skip : exec l P .skip k e d h = k .normal e d h := eqi rfl
theorem exec_seq {a b : Code} : exec l P (.seq a b) k e d h = exec l P a (thenK (exec l P b k) k) e d h := eqi rfl
theorem exec_cond {s : Tmp} {x y : Code} : exec l P (.cond (.tmp s) x y) k e d h = cd l P (e.getD s undef) s x y k e d h := eqi rfl
theorem exec_cond_t {x y : Code} : exec l P (.cond (.const (.bool true)) x y) k e d h = exec l P x k e d h := eqi rfl
theorem exec_cond_f {x y : Code} : exec l P (.cond (.const (.bool false)) x y) k e d h = exec l P y k e d h := eqi rfl
theorem exec_block {i : Nat} {c : Code} : exec l P (.block i c) k e d h = exec l P c (blockK i k) e d h := eqi rfl
theorem exec_region {i : Nat} {ops : List Oper} : exec l P (.region i ops.toArray false) k e d h = execR P ops ops k e d h := eqi rfl
theorem exec_draw {i : Nat} {ops : Array Oper} : exec l P (.region i ops true) k e d h = WP l P (.region i ops true) k e d h := eqi rfl
theorem exec_exit {i : Nat} : exec l P (.exit i) k e d h = k (.exit i) e d h := eqi rfl
theorem exec_ret : exec l P .ret k e d h = k .ret e d h := eqi rfl
theorem exec_label {i : Nat} : exec l P (.label i) k e d h = k .normal e d h := eqi rfl
theorem exec_loop {c : Code} : exec l P (.loop c) k e d h = WP l P (.loop c) k e d h := eqi rfl
theorem exec_rangeFunc {f : Operand} {ps : Array Tmp} {a b : Code} : exec l P (.rangeFunc f ps a b) k e d h = WP l P (.rangeFunc f ps a b) k e d h := eqi rfl
theorem execR_nil {all : List Oper} : execR P all [] k e d h = k .normal e d h := eqi rfl
theorem execR_cons {all : List Oper} {dst : Option Tmp} {op : Op} {pos : String} {after : Array Edge} {rest : List Oper} :
    execR P all (⟨dst, op, ty, pos, after, none⟩ :: rest) k e d h = opW P op ty e h (setK P all rest k dst e d) := eqi rfl
def gdo (P : Program) (s : Option Tmp) (want : Bool) (op : Op) (ty : TypeId) (all rest : List Oper) (k : Cont) (dst : Option Tmp) (e : Env) (d : List Deferred) (h : Heap) : Prop :=
  match s with | some s => gd P (e.getD s undef) s want op ty all rest k dst e d h | none => execR P all rest k (putE e dst undef) d h
theorem execR_guard {all : List Oper} {dst : Option Tmp} {op : Op} {pos : String} {after : Array Edge} {rest : List Oper} {j : Nat} {want : Bool} :
    execR P all (⟨dst, op, ty, pos, after, some (j, want)⟩ :: rest) k e d h = gdo P (gslot all j) want op ty all rest k dst e d h := by
  simp only [execR, guardW, gdo]
  cases gslot all j <;> rfl
theorem gdo_some {all rest : List Oper} {dst : Option Tmp} {op : Op} {want : Bool} {s : Tmp} : gdo P (some s) want op ty all rest k dst e d h = gd P (e.getD s undef) s want op ty all rest k dst e d h := eqi rfl
theorem gslot_zero {o : Oper} {all : List Oper} : gslot (o :: all) 0 = o.dst := eqi rfl
theorem gslot_succ {o : Oper} {all : List Oper} {j : Nat} : gslot (o :: all) (j + 1) = gslot all j := eqi rfl
theorem setK_eq {all rest : List Oper} {dst : Option Tmp} {v : Value} : setK P all rest k dst e d v h = execR P all rest k (putE e dst v) d h := eqi rfl
theorem putE_some {s : Tmp} {v : Value} : putE e (some s) v = e.set s v := eqi rfl
theorem putE_none {v : Value} : putE e none v = e := eqi rfl
theorem ev_tmp {s : Tmp} : ev e (.tmp s) = e.getD s undef := eqi rfl
theorem ev_const {v : Value} : ev e (.const v) = v := eqi rfl
theorem ev_global {g : Nat} : ev e (.global g) = .pointer (some ⟨g, 0, none⟩) := eqi rfl
theorem ev_func {f : FuncId} : ev e (.func f) = .func (.func f) #[] #[] := eqi rfl
theorem opW_move {x : Operand} : opW P (.move x) ty e h K = K (ev e x) h := eqi rfl
theorem opW_assign {x : Operand} : opW P (.assign x) ty e h K = K (ev e x) h := eqi rfl
def pkW (c a b : Value) (h : Heap) (K : Value → Heap → Prop) : Prop := match c with | .bool t => K (if t then a else b) h | _ => False
theorem opW_pick {c a b : Operand} : opW P (.pick c a b) ty e h K = pkW (ev e c) (ev e a) (ev e b) h K := eqi rfl
theorem pkW_true {a b : Value} : pkW (.bool true) a b h K = K a h := eqi rfl
theorem pkW_false {a b : Value} : pkW (.bool false) a b h K = K b h := eqi rfl
theorem pkW_or {x y : Bool} : pkW (.bool x) (.bool true) (.bool y) h K = K (.bool (x || y)) h := by cases x <;> rfl
theorem pkW_and {x y : Bool} : pkW (.bool x) (.bool y) (.bool false) h K = K (.bool (x && y)) h := by cases x <;> rfl
def alW (z : Option Value) (t : TypeId) (h : Heap) (K : Value → Heap → Prop) : Prop := match z with | some z => K (.pointer (some ⟨h.size, 0, none⟩)) (h.push (.cells z.cells t)) | none => False
theorem opW_alloc : opW P (.alloc t) ty e h K = alW (zeroT P t) t h K := by
  simp only [opW, alW, onSome]
  cases zeroT P t <;> rfl
theorem alW_some {z : Value} : alW (some z) t h K = K (.pointer (some ⟨h.size, 0, none⟩)) (h.push (.cells z.cells t)) := eqi rfl
theorem opW_box {x : Operand} : opW P (.box t x) ty e h K = K (.pointer (some ⟨h.size, 0, none⟩)) (h.push (.cells (ev e x).cells t)) := eqi rfl
theorem opW_load {x : Operand} : opW P (.load t x) ty e h K = loadW P t (ev e x) h K := eqi rfl
theorem loadW_one {p : Option Addr} (ha : aggT P t = some false) : loadW P t (.pointer p) h K = onV (cellH h p) K h := by simp [loadW, ha]
theorem loadW_agg {p : Option Addr} (ha : aggT P t = some true) (hi : (P.info? t).isSome = true) : loadW P t (.pointer p) h K = onC (cellsH h p (szT P t)) K h := by simp [loadW, ha, hi]
theorem opW_store {a x : Operand} : opW P (.store t a x) ty e h K = storeW P t (ev e a) (ev e x) h K := eqi rfl
theorem storeW_at {b off : Nat} {v : Value} (hi : (P.info? t).isSome = true) (hs : v.cells.size = szT P t) (ho : v.cells.toList.all one = true) :
    storeW P t (.pointer (some ⟨b, off, none⟩)) v h K = stK (rowH h b) b off v.cells.toList h K := by
  simp only [storeW, hi, hs, ho, true_and]
def faW (v : Value) (o : Option Nat) (h : Heap) (K : Value → Heap → Prop) : Prop := match v with | .pointer (some a) => a.spot = none ∧ onSome o (fun off => K (.pointer (some (addA a off))) h) | _ => False
theorem opW_fieldAddr {s : TypeId} {x : Operand} {f : Nat} : opW P (.fieldAddr s x f) ty e h K = faW (ev e x) (fieldOff P s f) h K := eqi rfl
theorem faW_at {b o off : Nat} : faW (.pointer (some ⟨b, o, none⟩)) (some off) h K = K (.pointer (some ⟨b, o + off, none⟩)) h := by
  simp only [faW, onSome, true_and, addA]
  by_cases h0 : off = 0 <;> simp [h0]
theorem opW_indexAddr {x i : Operand} : opW P (.indexAddr t x i) ty e h K = idxW P t (ev e x) (ev e i) h K := eqi rfl
def ixW (P : Program) (d : Option TypeDesc) (x i : Value) (h : Heap) (K : Value → Heap → Prop) : Prop :=
  match i with
  | .int _ n => match d, x with
    | some (.slice el), .slice a len _ => (P.info? el).isSome = true ∧ (0 ≤ n ∧ n < len) ∧ a.isSome = true ∧ K (.pointer (eltP a (n.toNat * szT P el))) h
    | some (.array len el), .pointer (some a) => (P.info? el).isSome = true ∧ (0 ≤ n ∧ n < len) ∧ K (.pointer (some (addA a (n.toNat * szT P el)))) h
    | _, _ => False
  | _ => False
theorem idxW_eq {x i : Value} : idxW P t x i h K = ixW P (P.underlying t) x i h K := eqi rfl
theorem ixW_slice {el : TypeId} {a : Option Addr} {len cap : Nat} {q : IntKind} {n : Int} (hi : (P.info? el).isSome = true) :
    ixW P (some (.slice el)) (.slice a len cap) (.int q n) h K = ((0 ≤ n ∧ n < len) ∧ a.isSome = true ∧ K (.pointer (eltP a (n.toNat * szT P el))) h) := by simp only [ixW, hi, true_and]
theorem ixW_array {el : TypeId} {b o : Nat} {len : Nat} {q : IntKind} {n : Int} (hi : (P.info? el).isSome = true) :
    ixW P (some (.array len el)) (.pointer (some ⟨b, o, none⟩)) (.int q n) h K = ((0 ≤ n ∧ n < len) ∧ K (.pointer (some ⟨b, o + n.toNat * szT P el, none⟩)) h) := by
  simp only [ixW, hi, true_and, addA]
  by_cases h0 : n.toNat * szT P el = 0 <;> simp [h0]
theorem eltP_some {b o n : Nat} : eltP (some ⟨b, o, none⟩) n = some ⟨b, o + n, none⟩ := by
  simp only [eltP, Option.map_some, addA]
  by_cases h0 : n = 0 <;> simp [h0]
def ncW (v : Value) (F : Prop) (h : Heap) (K : Value → Heap → Prop) : Prop := match v with | .pointer (some a) => K (.pointer (some a)) h | _ => F
theorem opW_nilCheck {x : Operand} : opW P (.nilCheck x) ty e h K = ncW (ev e x) (opSem P (.nilCheck x) ty e h K) h K := by
  simp only [opW, ncW]
theorem ncW_at {a : Addr} {F : Prop} : ncW (.pointer (some a)) F h K = K (.pointer (some a)) h := eqi rfl
theorem opW_binOp {op : BinOp} {x y : Operand} {yt : TypeId} : opW P (.binOp op t x y yt) ty e h K = binW op (ev e x) (ev e y) h K (opSem P (.binOp op t x y yt) ty e h K) := eqi rfl
section bins
variable {q : IntKind} {a b : Int} {F : Prop}
theorem bin_add : binW .add (.int q a) (.int q b) h K F = (InK q (a + b) ∧ K (.int q (a + b)) h) := by simp [binW, intW]
theorem bin_sub : binW .sub (.int q a) (.int q b) h K F = (InK q (a - b) ∧ K (.int q (a - b)) h) := by simp [binW, intW]
theorem bin_mul : binW .mul (.int q a) (.int q b) h K F = (InK q (a * b) ∧ K (.int q (a * b)) h) := by simp [binW, intW]
theorem bin_quo : binW .quo (.int q a) (.int q b) h K F = (b ≠ 0 ∧ InK q (a.tdiv b) ∧ K (.int q (a.tdiv b)) h) := by simp [binW, intW]
theorem bin_rem : binW .rem (.int q a) (.int q b) h K F = (b ≠ 0 ∧ K (.int q (a.tmod b)) h) := by simp [binW, intW]
theorem bin_eql : binW .eql (.int q a) (.int q b) h K F = K (.bool (decide (a = b))) h := by simp [binW, intW]
theorem bin_neq : binW .neq (.int q a) (.int q b) h K F = K (.bool (!decide (a = b))) h := by simp [binW, intW]
theorem bin_lss : binW .lss (.int q a) (.int q b) h K F = K (.bool (decide (a < b))) h := by simp [binW, intW]
theorem bin_leq : binW .leq (.int q a) (.int q b) h K F = K (.bool (decide (a ≤ b))) h := by simp [binW, intW]
theorem bin_gtr : binW .gtr (.int q a) (.int q b) h K F = K (.bool (decide (b < a))) h := by simp [binW, intW]
theorem bin_geq : binW .geq (.int q a) (.int q b) h K F = K (.bool (decide (b ≤ a))) h := by simp [binW, intW]
theorem bin_shl {q' : IntKind} : binW .shl (.int q a) (.int q' b) h K F = (0 ≤ b ∧ b ≤ q.bits ∧ InK q (a * 2 ^ b.toNat) ∧ K (.int q (a * 2 ^ b.toNat)) h) := by simp [binW, intW]
theorem bin_shr {q' : IntKind} : binW .shr (.int q a) (.int q' b) h K F = (0 ≤ b ∧ b ≤ q.bits ∧ K (.int q (a / 2 ^ b.toNat)) h) := by simp [binW, intW]
theorem bin_and : binW .and (.int q a) (.int q b) h K F = K (.int q (bitsI .and q a b)) h := by simp [binW, intW]
theorem bin_or : binW .or (.int q a) (.int q b) h K F = K (.int q (bitsI .or q a b)) h := by simp [binW, intW]
theorem bin_xor : binW .xor (.int q a) (.int q b) h K F = K (.int q (bitsI .xor q a b)) h := by simp [binW, intW]
theorem bin_andNot : binW .andNot (.int q a) (.int q b) h K F = K (.int q (bitsI .andNot q a b)) h := by simp [binW, intW]
variable {s r : ByteArray}
theorem bin_sadd : binW .add (.string s) (.string r) h K F = (((s.size + r.size : Nat) : Int) ≤ 9223372036854775807 ∧ K (.string (s ++ r)) h) := eqi rfl
theorem bin_seql : binW .eql (.string s) (.string r) h K F = K (.bool (decide (s = r))) h := eqi rfl
theorem bin_sneq : binW .neq (.string s) (.string r) h K F = K (.bool (!decide (s = r))) h := eqi rfl
theorem bin_agg {op : BinOp} {x y : Array Value} : binW op (.agg x) (.agg y) h K F = F := by cases op <;> rfl
theorem bin_bool {op : BinOp} {x y : Bool} : binW op (.bool x) (.bool y) h K F = F := by cases op <;> rfl
end bins
def ntW (v : Value) (h : Heap) (K : Value → Heap → Prop) : Prop := match v with | .bool b => K (.bool (!b)) h | _ => False
theorem opW_not {x : Operand} : opW P (.unOp .not t x) ty e h K = ntW (ev e x) h K := eqi rfl
theorem ntW_bool {b : Bool} : ntW (.bool b) h K = K (.bool (!b)) h := eqi rfl
def cvW (v : Value) (u s : Option TypeDesc) (F : Prop) (h : Heap) (K : Value → Heap → Prop) : Prop := match v, u, s with | .int _ n, some (.int k), some (.int _) => InK k n ∧ K (.int k n) h | _, _, _ => F
theorem opW_conv {s u : TypeId} {x : Operand} : opW P (.convert s u x) ty e h K = cvW (ev e x) (P.underlying u) (P.underlying s) (opSem P (.convert s u x) ty e h K) h K := by
  simp only [opW, cvW]
theorem cvW_int {q q' q'' : IntKind} {n : Int} {F : Prop} : cvW (.int q n) (some (.int q')) (some (.int q'')) F h K = (InK q' n ∧ K (.int q' n) h) := eqi rfl
theorem cvW_str {s' : ByteArray} {u s : Option TypeDesc} {F : Prop} : cvW (.string s') u s F h K = F := eqi rfl
theorem cvW_slice {a : Option Addr} {n c : Nat} {u s : Option TypeDesc} {F : Prop} : cvW (.slice a n c) u s F h K = F := eqi rfl
def exW (v : Value) (i : Nat) (h : Heap) (K : Value → Heap → Prop) : Prop := match v with | .tuple vs => onV vs[i]? K h | _ => False
theorem opW_extract {x : Operand} {i : Nat} : opW P (.extract x i) ty e h K = exW (ev e x) i h K := eqi rfl
theorem exW_tuple {vs : List Value} {i : Nat} : exW (.tuple vs.toArray) i h K = onV vs[i]? K h := by simp [exW]
theorem opW_makeFunc {fn : Fn} {first caps : Array Operand} : opW P (.makeFunc fn first caps) ty e h K = K (.func fn (first.map (ev e)) (caps.map (ev e))) h := eqi rfl
theorem opW_call {f : Operand} {args : Array Operand} {ats : Array TypeId} : opW P (.call ⟨.value f, args, ats⟩) ty e h K = callV P (ev e f) (args.map (ev e)) h K (opSem P (.call ⟨.value f, args, ats⟩) ty e h K) := eqi rfl
theorem callV_func {f : FuncId} {first caps args : Array Value} {F : Prop} : callV P (.func (.func f) first caps) args h K F = CallsH P f (first ++ args ++ caps) h K := eqi rfl
theorem opW_builtin {b : Builtin} {args : Array Operand} {ats : Array TypeId} : opW P (.call ⟨.builtin b, args, ats⟩) ty e h K = bltW b (args.map (ev e)).toList ((ats[0]?).bind P.underlying) h K (opSem P (.call ⟨.builtin b, args, ats⟩) ty e h K) := eqi rfl
section blt
variable {F : Prop} {a : Option Addr} {n c : Nat} {el : TypeId} {s : ByteArray} {q q' : IntKind} {x y : Int} {dd : Option TypeDesc} {vs : List Value}
theorem blt_len_slice : bltW .len [.slice a n c] (some (.slice el)) h K F = K (.int .i64 n) h := eqi rfl
theorem blt_len_str : bltW .len [.string s] (some .string) h K F = K (.int .i64 s.size) h := eqi rfl
theorem blt_min : bltW .min [.int q x, .int q' y] dd h K F = K (.int q (if y < x then y else x)) h := by cases dd <;> rfl
theorem blt_max : bltW .max [.int q x, .int q' y] dd h K F = K (.int q (if x < y then y else x)) h := by cases dd <;> rfl
theorem blt_append : bltW .append vs dd h K F = F := eqi rfl
theorem blt_copy : bltW .copy vs dd h K F = F := eqi rfl
theorem blt_clear : bltW .clear vs dd h K F = F := eqi rfl
theorem blt_delete : bltW .delete vs dd h K F = F := eqi rfl
theorem blt_len_map {r : Option Nat} {u w : TypeId} : bltW .len [.map r] (some (.map u w)) h K F = F := eqi rfl
end blt
def bldO (ok : Bool) (z : Option Value) (pl : Nat → Option (Nat × Nat)) (parts : List (Nat × Value)) (h : Heap) (K : Value → Heap → Prop) (F : Prop) : Prop :=
  match ok, z with | true, some z => onC (fillL pl z.cells.toList parts) K h | _, _ => F
theorem opW_build {parts : Array (Nat × Operand)} : opW P (.build t parts) ty e h K = bldO (okFields P t) (zeroT P t) (fieldPS P t) (parts.map fun (i, x) => (i, ev e x)).toList h K (opSem P (.build t parts) ty e h K) := by
  simp only [opW, pvW, bldW, bldO, alcW]
theorem bldO_some {z : Value} {pl : Nat → Option (Nat × Nat)} {parts : List (Nat × Value)} {F : Prop} : bldO true (some z) pl parts h K F = onC (fillL pl z.cells.toList parts) K h := eqi rfl
def fillS (o : Option (Nat × Nat)) (pl : Nat → Option (Nat × Nat)) (cells : List Value) (v : Value) (rest : List (Nat × Value)) : Option (List Value) :=
  match o with | some (off, size) => if v.cells.size = size ∧ off + size ≤ cells.length then fillL pl (splice cells off v.cells.toList) rest else none | none => none
theorem fillL_nil {pl : Nat → Option (Nat × Nat)} {cells : List Value} : fillL pl cells [] = some cells := eqi rfl
theorem fillL_cons {pl : Nat → Option (Nat × Nat)} {cells : List Value} {i : Nat} {v : Value} {rest : List (Nat × Value)} : fillL pl cells ((i, v) :: rest) = fillS (pl i) pl cells v rest := by simp only [fillL, fillS]
theorem fillS_some {pl : Nat → Option (Nat × Nat)} {cells : List Value} {v : Value} {rest : List (Nat × Value)} {off size : Nat} : fillS (some (off, size)) pl cells v rest = if v.cells.size = size ∧ off + size ≤ cells.length then fillL pl (splice cells off v.cells.toList) rest else none := eqi rfl
def bslO (P : Program) (el : TypeId) (z : Option Value) (n : Nat) (parts : List (Nat × Value)) (h : Heap) (K : Value → Heap → Prop) (F : Prop) : Prop :=
  match z with
    | some z => z.cells.size = szT P el ∧ 0 < szT P el ∧ n * szT P el ≤ 16777216 ∧
        onSome (fillL (fun i => some (i * szT P el, szT P el)) (List.replicate n z.cells.toList).flatten parts) (fun cs => K (.slice (some ⟨h.size, 0, none⟩) n n) (h.push (.cells cs.toArray el)))
    | none => F
theorem opW_buildSlice {n : Nat} {parts : Array (Nat × Operand)} : opW P (.buildSlice t n parts) ty e h K = bslW P (P.underlying t) n (parts.map fun (i, x) => (i, ev e x)).toList h K (opSem P (.buildSlice t n parts) ty e h K) := eqi rfl
theorem bslW_slice {el : TypeId} {n : Nat} {parts : List (Nat × Value)} {F : Prop} : bslW P (some (.slice el)) n parts h K F = bslO P el (zeroT P el) n parts h K F := by simp only [bslW, bslO]
def bslK (o : Option (List Value)) (n : Nat) (el : TypeId) (h : Heap) (K : Value → Heap → Prop) : Prop := match o with | some cs => K (.slice (some ⟨h.size, 0, none⟩) n n) (h.push (.cells cs.toArray el)) | none => False
theorem bslO_some {el : TypeId} {z : Value} {n : Nat} {parts : List (Nat × Value)} {F : Prop} : bslO P el (some z) n parts h K F = (z.cells.size = szT P el ∧ 0 < szT P el ∧ n * szT P el ≤ 16777216 ∧
    bslK (fillL (fun i => some (i * szT P el, szT P el)) (List.replicate n z.cells.toList).flatten parts) n el h K) := by
  simp only [bslO, bslK, onSome]
  cases fillL (fun i => some (i * szT P el, szT P el)) (List.replicate n z.cells.toList).flatten parts <;> rfl
theorem bslK_some {cs : List Value} {n : Nat} {el : TypeId} : bslK (some cs) n el h K = K (.slice (some ⟨h.size, 0, none⟩) n n) (h.push (.cells cs.toArray el)) := eqi rfl
theorem opW_index {x i : Operand} : opW P (.index t x i) ty e h K = idsW (ev e x) (ev e i) (P.underlying t) h K (opSem P (.index t x i) ty e h K) := eqi rfl
theorem idsW_str {s : ByteArray} {q : IntKind} {n : Int} {F : Prop} : idsW (.string s) (.int q n) (some .string) h K F = ((0 ≤ n ∧ n < s.size) ∧ K (.int .u8 (s.data.getD n.toNat 0).toNat) h) := eqi rfl
theorem opW_field {x : Operand} {f : Nat} : opW P (.field t x f) ty e h K = fldW P (ev e x) (fieldOT P t f) h K (opSem P (.field t x f) ty e h K) := eqi rfl
theorem fldW_at {cs : List Value} {off : Nat} {u : TypeId} {F : Prop} : fldW P (.agg cs.toArray) (some (off, u)) h K F = partW P u cs off h K := by simp only [fldW]
theorem partW_one {cs : List Value} {off : Nat} (ha : aggT P t = some false) : partW P t cs off h K = onV cs[off]? K h := by simp only [partW, ha]
theorem partW_agg {cs : List Value} {off : Nat} (ha : aggT P t = some true) (hi : (P.info? t).isSome = true) : partW P t cs off h K = K (.agg ((cs.drop off).take (szT P t)).toArray) h := by simp only [partW, ha, hi, true_and]
theorem opW_slice {x : Operand} {a b c : Option Operand} : opW P (.slice t x a b c) ty e h K = slcW P (ev e x) (P.underlying t) (a.map (ev e)) (b.map (ev e)) (c.map (ev e)) h K (opSem P (.slice t x a b c) ty e h K) := eqi rfl
def slcS (l r : Option Int) (s : ByteArray) (h : Heap) (K : Value → Heap → Prop) : Prop := match l, r with | some l, some r => sliceSW s l r h K | _, _ => False
def slcV (P : Program) (l r m : Option Int) (a : Option Addr) (cap : Nat) (el : TypeId) (h : Heap) (K : Value → Heap → Prop) : Prop := match l, r, m with | some l, some r, some m => sliceVW P a cap el l r m h K | _, _, _ => False
theorem slcW_str {s : ByteArray} {lo hi : Option Value} {F : Prop} : slcW P (.string s) (some .string) lo hi none h K F = slcS (bnd lo 0) (bnd hi s.size) s h K := by simp only [slcW, slcS]
theorem slcW_two {a : Option Addr} {len cap : Nat} {el : TypeId} {lo hi : Option Value} {F : Prop} : slcW P (.slice a len cap) (some (.slice el)) lo hi none h K F = slcV P (bnd lo 0) (bnd hi len) (some cap) a cap el h K := by
  cases hi <;> simp only [slcW, slcV, bnd]
theorem slcW_three {a : Option Addr} {len cap : Nat} {el : TypeId} {lo : Option Value} {u m : Value} {F : Prop} : slcW P (.slice a len cap) (some (.slice el)) lo (some u) (some m) h K F = slcV P (bnd lo 0) (bnd (some u) len) (bnd (some m) cap) a cap el h K := by
  simp only [slcW, slcV]
theorem slcW_arr {a : Addr} {n : Nat} {el : TypeId} {lo hi : Option Value} {F : Prop} : slcW P (.pointer (some a)) (some (.array n el)) lo hi none h K F = slcV P (bnd lo 0) (bnd hi n) (some n) (some a) n el h K := by
  simp only [slcW, slcV]
  cases bnd lo 0 <;> cases bnd hi n <;> rfl
theorem slcS_some {l r : Int} {s : ByteArray} : slcS (some l) (some r) s h K = (0 ≤ l ∧ l ≤ r ∧ r ≤ s.size ∧ K (.string (s.extract l.toNat r.toNat)) h) := eqi rfl
theorem slcV_some {l r m : Int} {a : Option Addr} {cap : Nat} {el : TypeId} (hi : (P.info? el).isSome = true) : slcV P (some l) (some r) (some m) a cap el h K = (0 ≤ l ∧ l ≤ r ∧ r ≤ m ∧ m ≤ cap ∧ K (.slice (if m = l then a else eltP a (l.toNat * szT P el)) (r - l).toNat (m - l).toNat) h) := by
  simp only [slcV, sliceVW, hi, true_and]
theorem bnd_none {n : Nat} : bnd none n = some (n : Int) := eqi rfl
theorem bnd_int {q : IntKind} {n : Int} {dd : Nat} : bnd (some (.int q n)) dd = some n := eqi rfl
theorem opW_neg {x : Operand} : opW P (.unOp .neg t x) ty e h K = negW (ev e x) h K (opSem P (.unOp .neg t x) ty e h K) := eqi rfl
theorem negW_int {q : IntKind} {n : Int} {F : Prop} : negW (.int q n) h K F = (InK q (0 - n) ∧ K (.int q (0 - n)) h) := eqi rfl
theorem opW_makeSlice {a b : Operand} : opW P (.makeSlice t a b) ty e h K = mksW P (P.underlying t) (ev e a) (ev e b) h K (opSem P (.makeSlice t a b) ty e h K) := eqi rfl
def mksO (P : Program) (el : TypeId) (z : Option Value) (l c : Int) (h : Heap) (K : Value → Heap → Prop) (F : Prop) : Prop :=
  match z with
    | some z => z.cells.size = szT P el ∧ 0 < szT P el ∧ 0 ≤ l ∧ l ≤ c ∧ c * bytesT P el ≤ 281474976710656 ∧ c ≤ 9223372036854775807 ∧
        K (.slice (some ⟨h.size, 0, none⟩) l.toNat c.toNat) (h.push (.cells (List.replicate c.toNat z.cells.toList).flatten.toArray el))
    | none => F
theorem mksW_int {el : TypeId} {q q' : IntKind} {l c : Int} {F : Prop} : mksW P (some (.slice el)) (.int q l) (.int q' c) h K F = mksO P el (zeroT P el) l c h K F := by simp only [mksW, mksO]
theorem mksO_some {el : TypeId} {z : Value} {l c : Int} {F : Prop} : mksO P el (some z) l c h K F = (z.cells.size = szT P el ∧ 0 < szT P el ∧ 0 ≤ l ∧ l ≤ c ∧ c * bytesT P el ≤ 281474976710656 ∧ c ≤ 9223372036854775807 ∧
        K (.slice (some ⟨h.size, 0, none⟩) l.toNat c.toNat) (h.push (.cells (List.replicate c.toNat z.cells.toList).flatten.toArray el))) := eqi rfl
theorem opW_makeMap : opW P (.makeMap t none) ty e h K = K (.map (some h.size)) (h.push (.map #[] 0)) := eqi rfl
theorem opW_lookup {m x : Operand} {b : Bool} : opW P (.lookup t m x b) ty e h K = opSem P (.lookup t m x b) ty e h K := eqi rfl
theorem opW_mapUpdate {m x y : Operand} : opW P (.mapUpdate t m x y) ty e h K = opSem P (.mapUpdate t m x y) ty e h K := eqi rfl
theorem opW_range {x : Operand} : opW P (.range t x) ty e h K = opSem P (.range t x) ty e h K := eqi rfl
theorem opW_next {x : Operand} {b : Bool} : opW P (.next x b) ty e h K = opSem P (.next x b) ty e h K := eqi rfl
theorem resA_one {v : Value} : resA P [] e [v] K h = K v h := eqi rfl
theorem resA_nil : resA P [] e [] K h = K (.tuple #[]) h := eqi rfl
theorem resA_two {v u : Value} {vs : List Value} : resA P [] e (v :: u :: vs) K h = K (.tuple (v :: u :: vs).toArray) h := eqi rfl
theorem resA_tmp {i : Tmp} {rs : List ResultVar} {acc : List Value} : resA P (.tmp i :: rs) e acc K h = resA P rs e (acc ++ [e.getD i undef]) K h := eqi rfl
def resK (P : Program) (rs : List ResultVar) (e : Env) (acc : List Value) (K : Value → Heap → Prop) : Value → Heap → Prop := fun v h => resA P rs e (acc ++ [v]) K h
theorem resA_cell {i : Tmp} {rs : List ResultVar} {acc : List Value} : resA P (.cell i t :: rs) e acc K h = loadW P t (e.getD i undef) h (resK P rs e acc K) := eqi rfl
theorem resK_eq {rs : List ResultVar} {acc : List Value} {v : Value} : resK P rs e acc K v h = resA P rs e (acc ++ [v]) K h := eqi rfl

/-! ### the heap -/
def celO (o : Option Obj) (i : Nat) : Option Value := match o with | some (.cells c _ _) => c[i]? | _ => none
def cesO (o : Option Obj) (i n : Nat) : Option (List Value) := match o with | some (.cells c _ _) => if i + n ≤ c.size then some ((c.toList.drop i).take n) else none | _ => none
def rowO (o : Option Obj) : Option (List Value × TypeId) := match o with | some (.cells c t (lo, hi)) => if lo = 0 ∧ hi = 0 then some (c.toList, t) else none | _ => none
theorem cellH_eq {b o : Nat} : cellH h (some ⟨b, o, none⟩) = celO h[b]? o := by simp only [cellH, celO]; split <;> simp_all
theorem cellsH_eq {b o n : Nat} : cellsH h (some ⟨b, o, none⟩) n = cesO h[b]? o n := by simp only [cellsH, cesO]; split <;> simp_all
theorem rowH_eq {b : Nat} : rowH h b = rowO h[b]? := eqi rfl
theorem celO_cells {c : List Value} {ct : TypeId} {fr : Nat × Nat} {i : Nat} : celO (some (.cells c.toArray ct fr)) i = c[i]? := by simp [celO]
theorem cesO_cells {c : List Value} {ct : TypeId} {fr : Nat × Nat} {i n : Nat} (hn : i + n ≤ c.length) : cesO (some (.cells c.toArray ct fr)) i n = some ((c.drop i).take n) := by simp [cesO, hn]
theorem rowO_cells {c : List Value} {ct : TypeId} : rowO (some (.cells c.toArray ct (0, 0))) = some (c, ct) := by simp [rowO]
theorem push_get {o : Obj} {b : Nat} : (h.push o)[b]? = if b = h.size then some o else h[b]? := Array.getElem?_push
theorem push_old {o x : Obj} {b : Nat} (hb : h[b]? = some x) : (h.push o)[b]? = some x := by
  have hlt := (Array.getElem?_eq_some_iff.1 hb).1
  rw [Array.getElem?_push, if_neg (by omega)]; exact hb
theorem push_new {o : Obj} : (h.push o)[h.size]? = some o := by simp
theorem push_size {o : Obj} : (h.push o).size = h.size + 1 := by simp
theorem upd_push_new {o : Obj} {c : List Value} {ct : TypeId} : updH (h.push o) h.size c ct = h.push (.cells c.toArray ct) := by
  unfold updH
  apply Array.ext_getElem?
  intro j
  rw [Array.getElem?_setIfInBounds, Array.getElem?_push, Array.getElem?_push]
  by_cases hj : h.size = j
  · subst hj; simp
  · simp [hj, Ne.symm hj]
theorem upd_push_old {o : Obj} {b : Nat} {c : List Value} {ct : TypeId} (hb : b < h.size) : updH (h.push o) b c ct = (updH h b c ct).push o := by
  unfold updH
  apply Array.ext_getElem?
  intro j
  rw [Array.getElem?_setIfInBounds, Array.getElem?_push, Array.getElem?_push, Array.getElem?_setIfInBounds]
  by_cases hj : b = j
  · subst hj; simp [hb, Nat.ne_of_lt hb, Nat.lt_succ_of_lt hb]
  · simp [hj]
theorem upd_size {b : Nat} {c : List Value} {ct : TypeId} : (updH h b c ct).size = h.size := by simp [updH]
theorem upd_same {b : Nat} {c : List Value} {ct : TypeId} (hb : b < h.size) : (updH h b c ct)[b]? = some (.cells c.toArray ct) := by simp [updH, hb]
theorem upd_other {b b' : Nat} {c : List Value} {ct : TypeId} {x : Obj} (hb : h[b']? = some x) (hne : b ≠ b') : (updH h b c ct)[b']? = some x := by
  simp [updH, Array.getElem?_setIfInBounds_ne hne, hb]

/-- Nothing that was there has turned. -/
structure Ext (h h' : Heap) : Prop where
  size : h.size ≤ h'.size
  old : ∀ b, b < h.size → h'[b]? = h[b]?
theorem Ext.refl (h : Heap) : Ext h h := ⟨Nat.le_refl _, fun _ _ => rfl⟩
theorem Ext.trans {a b c : Heap} (x : Ext a b) (y : Ext b c) : Ext a c := ⟨Nat.le_trans x.size y.size, fun i hi => (y.old i (Nat.lt_of_lt_of_le hi x.size)).trans (x.old i hi)⟩
theorem Ext.push {h h' : Heap} (x : Ext h h') (o : Obj) : Ext h (h'.push o) := ⟨by have := x.size; simp; omega, fun b hb => by rw [Array.getElem?_push, if_neg (by have := x.size; omega)]; exact x.old b hb⟩
theorem Ext.upd {h h' : Heap} (x : Ext h h') {b : Nat} (hb : h.size ≤ b) (c : List Value) (ct : TypeId) : Ext h (updH h' b c ct) :=
  ⟨by rw [upd_size]; exact x.size, fun i hi => by unfold updH; rw [Array.getElem?_setIfInBounds_ne (by omega)]; exact x.old i hi⟩
theorem Ext.get {h h' : Heap} (x : Ext h h') {b : Nat} {o : Obj} (hb : h[b]? = some o) : h'[b]? = some o := (x.old b (Array.getElem?_eq_some_iff.1 hb).1).trans hb
end eqs

/-! ### regions that draw their order -/
section draw
variable {l : Option Nat} {P : Program} {ops : Array Oper}

def semPostW (P : Program) (w : World) (K : Value → World → Prop) : Result Next → Prop
  | .ok (.value v) w' => K v w' ∧ Rest w w'
  | .ok .skip w' => K undef w' ∧ Rest w w'
  | .ok (.enter f args) w' => Rest w w' ∧ Calls P f args w' fun e w'' => ∃ v, e = .returned v ∧ K v w'' ∧ Rest w' w''
  | .ok (.round l f tmps asg body) w' => Rest w w' ∧ RoundIn Fence.wide 0 P l f tmps asg body w' fun e w'' => ∃ v, e = .returned v ∧ K v w'' ∧ Rest w' w''
  | _ => False
theorem semPostW_mono {w : World} {K K' : Value → World → Prop} {r : Result Next} (hk : ∀ v w', Rest w w' → K v w' → K' v w') (H : semPostW P w K r) : semPostW P w K' r := by
  unfold semPostW at *
  split at H
  · exact ⟨hk _ _ H.2 H.1, H.2⟩
  · exact ⟨hk _ _ H.2 H.1, H.2⟩
  · exact ⟨H.1, Calls.mono H.2 fun e w'' ⟨v, he, hv, hr⟩ => ⟨v, he, hk _ _ (H.1.trans hr) hv, hr⟩⟩
  · exact ⟨H.1, RoundIn.mono H.2 fun e w'' ⟨v, he, hv, hr⟩ => ⟨v, he, hk _ _ (H.1.trans hr) hv, hr⟩⟩
  · exact H.elim
def opSw (P : Program) (o : Oper) (a : Act) (w : World) (K : Value → World → Prop) : Prop := noDefer o.op = true ∧ semPostW P w K ((execOp a.eval o).run P w)
def opD (P : Program) (ops : Array Oper) (i : Nat) (K : Act → World → Prop) (a : Act) (w : World) : Prop :=
  match ops[i]? with
  | none => K a w
  | some o => if Region.wanted o (yielded ops a.tmps) = true then opSw P o a w (fun v w' => K (a.put o.dst v) w') else K (a.put o.dst undef) w
def Sta (R : Heap → Heap → Prop) : Prop := (∀ h : Heap, R h h) ∧ (∀ a b c : Heap, R a b → R b c → R a c) ∧ (∀ (h h' : Heap) (b : Nat) (x : Obj), R h h' → h[b]? = some x → h'[b]? = some x)
def anyR (P : Program) (ops : Array Oper) (R : Heap → Heap → Prop) (G : Nat → Bool) (Q : Act → World → Prop) : Nat → Array Bool → Act → World → Prop
  | 0, listed, a, w => ∀ w1, Rest w w1 → R w.heap w1.heap → Region.ready .any ops listed = [] ∧ Q a w1
  | n + 1, listed, a, w => ∀ w1, Rest w w1 → R w.heap w1.heap → (Region.ready .any ops listed = [] → Q a w1) ∧
      ∀ i ∈ Region.ready .any ops listed, opD P ops i (fun a' w' => (G i = true → R w1.heap w'.heap) ∧ Rest w1 w' ∧ anyR P ops R G Q n (listed.setIfInBounds i true) a' w') a w1
variable {R : Heap → Heap → Prop} {G : Nat → Bool} {Q : Act → World → Prop}
theorem anyR_later (hS : Sta R) {n : Nat} {listed : Array Bool} {a : Act} {w w' : World} (hr : Rest w w') (hR : R w.heap w'.heap) (H : anyR P ops R G Q n listed a w) : anyR P ops R G Q n listed a w' := by
  cases n with
  | zero => exact fun w1 h1 h2 => H w1 (hr.trans h1) (hS.2.1 _ _ _ hR h2)
  | succ n => exact fun w1 h1 h2 => H w1 (hr.trans h1) (hS.2.1 _ _ _ hR h2)

theorem wpOpIn_of_opD {i : Nat} {K : Act → World → Prop} {Q' : Exit → Act → World → Prop} {a : Act} {w : World} (H : opD P ops i K a w) : wpOpIn (fen l) 0 P ops Q' i K a w := by
  unfold opD at H
  unfold wpOpIn
  cases ho : ops[i]? with
  | none => simpa [ho] using H
  | some o =>
    simp only [ho] at H ⊢
    split at H
    · rename_i hw
      simp only [hw, if_true]
      refine ⟨fun _ _ => trivial, ?_⟩
      obtain ⟨hd, H⟩ := H
      rw [semAt_noDefer hd]
      unfold semPostW at H
      split at H
      · rename_i v w' hr; rw [hr]; exact H.1
      · rename_i w' hr; rw [hr]; exact H.1
      · rename_i f args w' hr
        rw [hr]
        refine ⟨fun h => by simp [fen_depth] at h, CallsIn.mono (callsIn_of l H.2) ?_⟩
        rintro e' w'' ⟨v, rfl, hv, hrest⟩
        exact hv
      · rename_i l' f tmps asg body w' hr
        rw [hr]
        refine ⟨fun h => by simp [fen_depth] at h, RoundIn.mono (show RoundIn (fen l) 0 P l' f tmps asg body w' _ from H.2) ?_⟩
        rintro e' w'' ⟨v, rfl, hv, hrest⟩
        exact hv
      · exact H.elim
    · rename_i hw
      simp only [hw]
      exact ⟨fun _ _ => trivial, H⟩

theorem wpAny_of_anyR (hS : Sta R) {Q' : Exit → Act → World → Prop} (hQ : ∀ a w, Q a w → Q' .normal a w) : ∀ (n : Nat) (listed : Array Bool) (a : Act) (w : World), anyR P ops R G Q n listed a w → wpAnyIn (fen l) 0 P .any ops Q' n listed a w
  | 0, listed, a, w, H => ⟨(H w (Rest.refl w) (hS.1 _)).1, hQ _ _ (H w (Rest.refl w) (hS.1 _)).2⟩
  | n + 1, listed, a, w, H => by
    have H := H w (Rest.refl w) (hS.1 _)
    exact ⟨fun h0 => hQ _ _ (H.1 h0), fun i hi => wpOpIn_mono (fun a' w' h' => wpAny_of_anyR hS hQ n _ a' w' h'.2.2) (wpOpIn_of_opD (H.2 i hi))⟩

def Yd (P : Program) (ops : Array Oper) (R : Heap → Heap → Prop) (o : Oper) (v : Value) (a : Act) (w : World) : Prop :=
  (Region.wanted o (yielded ops a.tmps) = true ∧ ∀ w', Rest w w' → R w.heap w'.heap → opSw P o a w' (fun v' w'' => v' = v ∧ R w'.heap w''.heap)) ∨
  (Region.wanted o (yielded ops a.tmps) = false ∧ v = undef)
theorem Yd_later (hS : Sta R) {o : Oper} {v : Value} {a : Act} {w w' : World} (hr : Rest w w') (hR : R w.heap w'.heap) (H : Yd P ops R o v a w) : Yd P ops R o v a w' := by
  rcases H with ⟨h1, h2⟩ | h
  · exact .inl ⟨h1, fun w1 hr1 hR1 => h2 w1 (hr.trans hr1) (hS.2.1 _ _ _ hR hR1)⟩
  · exact .inr h
theorem Yd_of {o : Oper} {v : Value} {a a' : Act} {w : World} (H : Yd P ops R o v a w) (he : execOp a'.eval o = execOp a.eval o) (hw : Region.wanted o (yielded ops a'.tmps) = Region.wanted o (yielded ops a.tmps)) : Yd P ops R o v a' w := by
  unfold Yd opSw at *
  rw [he, hw]
  exact H

theorem anyR_first (hS : Sta R) {i : Nat} {oi : Oper} {v : Value} (hi : ops[i]? = some oi) (hsel : ∀ (j : Nat) (o : Oper) cs b, ops[j]? = some o → o.op ≠ .select cs b) (Bk : List Nat) (hBk : ∀ j ∈ Bk, j ≠ i ∧ ∀ oj, ops[j]? = some oj → ∃ e ∈ oj.after, Region.binds .any e = true ∧ (e.on = i ∨ e.on ∈ Bk)) :
    ∀ (fuel : Nat) (listed : Array Bool) (a : Act) (w : World),
      (∀ j oj, ops[j]? = some oj → j ≠ i → listed.getD j true = false → j ∉ Bk → oi.apart ops oj = true ∧ G j = true) → (∀ j ∈ Bk, listed.getD j true = false) →
      i ∈ Region.ready .any ops listed → Yd P ops R oi v a w →
      anyR P ops R G Q fuel (listed.setIfInBounds i true) (a.put oi.dst v) w → anyR P ops R G Q (fuel + 1) listed a w := by
  intro fuel
  have self : ∀ (fuel : Nat) (listed : Array Bool) (a : Act) (w w1 : World), Rest w w1 → R w.heap w1.heap → Yd P ops R oi v a w →
      anyR P ops R G Q fuel (listed.setIfInBounds i true) (a.put oi.dst v) w → opD P ops i (fun a' w' => (G i = true → R w1.heap w'.heap) ∧ Rest w1 w' ∧ anyR P ops R G Q fuel (listed.setIfInBounds i true) a' w') a w1 := by
    intro fuel listed a w w1 hr1 hR1 hy H
    unfold opD
    simp only [hi]
    rcases hy with ⟨hw, hy⟩ | ⟨hw, hv⟩
    · simp only [hw, if_true]
      obtain ⟨hd, hs⟩ := hy w1 hr1 hR1
      refine ⟨hd, semPostW_mono ?_ hs⟩
      rintro v' w'' hr ⟨rfl, hR⟩
      exact ⟨fun _ => hR, hr, anyR_later hS (hr1.trans hr) (hS.2.1 _ _ _ hR1 hR) H⟩
    · simp only [hw]
      subst hv
      exact ⟨fun _ => hS.1 _, Rest.refl _, anyR_later hS hr1 hR1 H⟩
  induction fuel with
  | zero =>
    intro listed a w _ hbl hr hy H w1 hr1 hR1
    refine ⟨fun h => (by rw [h] at hr; cases hr), fun j hj => ?_⟩
    by_cases hji : j = i
    · subst hji; exact self 0 listed a w w1 hr1 hR1 hy H
    · have := ready_mono hj hji
      rw [(H w1 hr1 hR1).1] at this
      cases this
  | succ fuel ih =>
    intro listed a w hfree hbl hr hy H w1 hr1 hR1
    refine ⟨fun h => (by rw [h] at hr; cases hr), fun j hj => ?_⟩
    by_cases hji : j = i
    · subst hji; exact self (fuel + 1) listed a w w1 hr1 hR1 hy H
    · have h1 := (H w1 hr1 hR1).2 j (ready_mono hj hji)
      obtain ⟨hjun, oj, hoj, hall⟩ := mem_ready.1 hj
      have hnot : j ∉ Bk := fun hjB => by
        obtain ⟨e, he, hb, hon⟩ := (hBk j hjB).2 oj hoj
        have h1 := hall e he hb
        have h0 : listed.getD e.on true = false := by
          rcases hon with hon | hon
          · rw [hon]; exact (mem_ready.1 hr).1
          · exact hbl _ hon
        rcases Nat.lt_or_ge e.on listed.size with h' | h'
        · simp [h'] at h0 h1; rw [h0] at h1; cases h1
        · simp [Array.getElem?_eq_none h'] at h1
      obtain ⟨hap, hGj⟩ := hfree j oj hoj hji hjun hnot
      obtain ⟨hp1, hp2, hp3⟩ := Oper.apart_spec hap
      have hsj : ∀ cs b, oj.op ≠ .select cs b := fun cs b => hsel j oj cs b hoj
      have hsi : ∀ cs b, oi.op ≠ .select cs b := fun cs b => hsel i oi cs b hi
      have hfree' : ∀ k ok, ops[k]? = some ok → k ≠ i → (listed.setIfInBounds j true).getD k true = false →
          k ∉ Bk → oi.apart ops ok = true ∧ G k = true := fun k ok hk hki hun hno => by
        refine hfree k ok hk hki ?_ hno
        by_cases hjk : j = k
        · subst hjk; exact hjun
        · rw [getD_set_ne true hjk] at hun; exact hun
      have hbl' : ∀ k ∈ Bk, (listed.setIfInBounds j true).getD k true = false := fun k hk => by
        have hjk : j ≠ k := fun h => hnot (h ▸ hk)
        rw [getD_set_ne true hjk]
        exact hbl k hk
      have step : ∀ (u : Value) (w' : World), Rest w1 w' → ((G j = true → R w1.heap w'.heap) ∧ Rest w1 w' ∧ anyR P ops R G Q fuel ((listed.setIfInBounds i true).setIfInBounds j true) ((a.put oi.dst v).put oj.dst u) w') →
          (G j = true → R w1.heap w'.heap) ∧ Rest w1 w' ∧ anyR P ops R G Q (fuel + 1) (listed.setIfInBounds j true) (a.put oj.dst u) w' := by
        rintro u w' hr' ⟨hg, hr2, hany⟩
        refine ⟨hg, hr2, ih (listed.setIfInBounds j true) (a.put oj.dst u) w' hfree' hbl' (ready_mono hr (Ne.symm hji)) ?_ ?_⟩
        · exact Yd_of (Yd_later hS (hr1.trans hr2) (hS.2.1 _ _ _ hR1 (hg hGj)) hy) (execOp_put oi hsi a oj.dst u hp3) (wanted_put oi a oj.dst u hp3)
        · rw [Array.setIfInBounds_comm _ _ hji, ← Act.put_comm a v u hp2]
          exact hany
      unfold opD at h1 ⊢
      simp only [hoj] at h1 ⊢
      rw [wanted_put oj a oi.dst v hp1] at h1
      split
      · rename_i hw
        simp only [hw, if_true] at h1
        refine ⟨h1.1, ?_⟩
        have h2 := h1.2
        rw [execOp_put oj hsj a oi.dst v hp1] at h2
        exact semPostW_mono (fun u w' hr' h3 => step u w' hr' h3) h2
      · rename_i hw
        simp only [hw] at h1
        exact step undef w1 (Rest.refl _) h1

/-- An operation that does not look at the heap has this value. -/
def YdP (P : Program) (ops : Array Oper) (o : Oper) (v : Value) (a : Act) (w : World) : Prop :=
  (Region.wanted o (yielded ops a.tmps) = true ∧ ∀ w', Rest w w' → opSw P o a w' (fun v' w'' => v' = v ∧ w''.heap = w'.heap)) ∨
  (Region.wanted o (yielded ops a.tmps) = false ∧ v = undef)
theorem YdP_later {o : Oper} {v : Value} {a : Act} {w w' : World} (hr : Rest w w') (H : YdP P ops o v a w) : YdP P ops o v a w' := by
  rcases H with ⟨h1, h2⟩ | h
  · exact .inl ⟨h1, fun w1 hr1 => h2 w1 (hr.trans hr1)⟩
  · exact .inr h
theorem YdP_of {o : Oper} {v : Value} {a a' : Act} {w : World} (H : YdP P ops o v a w) (he : execOp a'.eval o = execOp a.eval o) (hw : Region.wanted o (yielded ops a'.tmps) = Region.wanted o (yielded ops a.tmps)) : YdP P ops o v a' w := by
  unfold YdP opSw at *
  rw [he, hw]
  exact H
theorem anyR_firstP (hS : Sta R) {i : Nat} {oi : Oper} {v : Value} (hi : ops[i]? = some oi) (hsel : ∀ (j : Nat) (o : Oper) cs b, ops[j]? = some o → o.op ≠ .select cs b) (Bk : List Nat) (hBk : ∀ j ∈ Bk, j ≠ i ∧ ∀ oj, ops[j]? = some oj → ∃ e ∈ oj.after, Region.binds .any e = true ∧ (e.on = i ∨ e.on ∈ Bk)) :
    ∀ (fuel : Nat) (listed : Array Bool) (a : Act) (w : World),
      (∀ j oj, ops[j]? = some oj → j ≠ i → listed.getD j true = false → j ∉ Bk → oi.apart ops oj = true) → (∀ j ∈ Bk, listed.getD j true = false) →
      i ∈ Region.ready .any ops listed → YdP P ops oi v a w →
      anyR P ops R G Q fuel (listed.setIfInBounds i true) (a.put oi.dst v) w → anyR P ops R G Q (fuel + 1) listed a w := by
  intro fuel
  have self : ∀ (fuel : Nat) (listed : Array Bool) (a : Act) (w w1 : World), Rest w w1 → R w.heap w1.heap → YdP P ops oi v a w →
      anyR P ops R G Q fuel (listed.setIfInBounds i true) (a.put oi.dst v) w → opD P ops i (fun a' w' => (G i = true → R w1.heap w'.heap) ∧ Rest w1 w' ∧ anyR P ops R G Q fuel (listed.setIfInBounds i true) a' w') a w1 := by
    intro fuel listed a w w1 hr1 hR1 hy H
    unfold opD
    simp only [hi]
    rcases hy with ⟨hw, hy⟩ | ⟨hw, hv⟩
    · simp only [hw, if_true]
      obtain ⟨hd, hs⟩ := hy w1 hr1
      refine ⟨hd, semPostW_mono ?_ hs⟩
      rintro v' w'' hr ⟨rfl, hE⟩
      have hR : R w1.heap w''.heap := by rw [hE]; exact hS.1 _
      exact ⟨fun _ => hR, hr, anyR_later hS (hr1.trans hr) (hS.2.1 _ _ _ hR1 hR) H⟩
    · simp only [hw]
      subst hv
      exact ⟨fun _ => hS.1 _, Rest.refl _, anyR_later hS hr1 hR1 H⟩
  induction fuel with
  | zero =>
    intro listed a w _ hbl hr hy H w1 hr1 hR1
    refine ⟨fun h => (by rw [h] at hr; cases hr), fun j hj => ?_⟩
    by_cases hji : j = i
    · subst hji; exact self 0 listed a w w1 hr1 hR1 hy H
    · have := ready_mono hj hji
      rw [(H w1 hr1 hR1).1] at this
      cases this
  | succ fuel ih =>
    intro listed a w hfree hbl hr hy H w1 hr1 hR1
    refine ⟨fun h => (by rw [h] at hr; cases hr), fun j hj => ?_⟩
    by_cases hji : j = i
    · subst hji; exact self (fuel + 1) listed a w w1 hr1 hR1 hy H
    · have h1 := (H w1 hr1 hR1).2 j (ready_mono hj hji)
      obtain ⟨hjun, oj, hoj, hall⟩ := mem_ready.1 hj
      have hnot : j ∉ Bk := fun hjB => by
        obtain ⟨e, he, hb, hon⟩ := (hBk j hjB).2 oj hoj
        have h1 := hall e he hb
        have h0 : listed.getD e.on true = false := by
          rcases hon with hon | hon
          · rw [hon]; exact (mem_ready.1 hr).1
          · exact hbl _ hon
        rcases Nat.lt_or_ge e.on listed.size with h' | h'
        · simp [h'] at h0 h1; rw [h0] at h1; cases h1
        · simp [Array.getElem?_eq_none h'] at h1
      have hap := hfree j oj hoj hji hjun hnot
      obtain ⟨hp1, hp2, hp3⟩ := Oper.apart_spec hap
      have hsj : ∀ cs b, oj.op ≠ .select cs b := fun cs b => hsel j oj cs b hoj
      have hsi : ∀ cs b, oi.op ≠ .select cs b := fun cs b => hsel i oi cs b hi
      have hfree' : ∀ k ok, ops[k]? = some ok → k ≠ i → (listed.setIfInBounds j true).getD k true = false →
          k ∉ Bk → oi.apart ops ok = true := fun k ok hk hki hun hno => by
        refine hfree k ok hk hki ?_ hno
        by_cases hjk : j = k
        · subst hjk; exact hjun
        · rw [getD_set_ne true hjk] at hun; exact hun
      have hbl' : ∀ k ∈ Bk, (listed.setIfInBounds j true).getD k true = false := fun k hk => by
        have hjk : j ≠ k := fun h => hnot (h ▸ hk)
        rw [getD_set_ne true hjk]
        exact hbl k hk
      have step : ∀ (u : Value) (w' : World), Rest w1 w' → ((G j = true → R w1.heap w'.heap) ∧ Rest w1 w' ∧ anyR P ops R G Q fuel ((listed.setIfInBounds i true).setIfInBounds j true) ((a.put oi.dst v).put oj.dst u) w') →
          (G j = true → R w1.heap w'.heap) ∧ Rest w1 w' ∧ anyR P ops R G Q (fuel + 1) (listed.setIfInBounds j true) (a.put oj.dst u) w' := by
        rintro u w' hr' ⟨hg, hr2, hany⟩
        refine ⟨hg, hr2, ih (listed.setIfInBounds j true) (a.put oj.dst u) w' hfree' hbl' (ready_mono hr (Ne.symm hji)) ?_ ?_⟩
        · exact YdP_of (YdP_later (hr1.trans hr2) hy) (execOp_put oi hsi a oj.dst u hp3) (wanted_put oi a oj.dst u hp3)
        · rw [Array.setIfInBounds_comm _ _ hji, ← Act.put_comm a v u hp2]
          exact hany
      unfold opD at h1 ⊢
      simp only [hoj] at h1 ⊢
      rw [wanted_put oj a oi.dst v hp1] at h1
      split
      · rename_i hw
        simp only [hw, if_true] at h1
        refine ⟨h1.1, ?_⟩
        have h2 := h1.2
        rw [execOp_put oj hsj a oi.dst v hp1] at h2
        exact semPostW_mono (fun u w' hr' h3 => step u w' hr' h3) h2
      · rename_i hw
        simp only [hw] at h1
        exact step undef w1 (Rest.refl _) h1

/-! #### the plan: the operations in an order that serves for all -/
def opQS (P : Program) (R : Heap → Heap → Prop) (o : Op) (ty : TypeId) (e : Env) (h : Heap) (K : Value → Heap → Prop) : Prop :=
  ∃ v, (∀ h', R h h' → opSem P o ty e h' (fun v' h'' => v' = v ∧ R h' h'')) ∧ K v h
def callQ (P : Program) (R : Heap → Heap → Prop) (v : Value) (args : Array Value) (h : Heap) (K : Value → Heap → Prop) (F : Prop) : Prop :=
  match v with
  | .func (.func f) first caps => ∃ r, (∀ h', R h h' → CallsH P f (first ++ args ++ caps) h' (fun v' h'' => v' = r ∧ R h' h'')) ∧ K r h
  | _ => F
def opQW (P : Program) (R : Heap → Heap → Prop) (o : Op) (ty : TypeId) (e : Env) (h : Heap) (K : Value → Heap → Prop) : Prop :=
  match o with
  | .move x => K (ev e x) h
  | .assign x => K (ev e x) h
  | .pick c a b => match ev e c with | .bool t => K (if t then ev e a else ev e b) h | _ => False
  | .load t x => loadW P t (ev e x) h K
  | .fieldAddr s x f => opW P (.fieldAddr s x f) ty e h K
  | .indexAddr t x i => idxW P t (ev e x) (ev e i) h K
  | .nilCheck x => match ev e x with | .pointer (some a) => K (.pointer (some a)) h | _ => opQS P R o ty e h K
  | .binOp op _ x y _ => binW op (ev e x) (ev e y) h K (opQS P R o ty e h K)
  | .unOp .not _ x => match ev e x with | .bool b => K (.bool (!b)) h | _ => False
  | .convert s d x => match ev e x, P.underlying d, P.underlying s with
    | .int _ n, some (.int k), some (.int _) => InK k n ∧ K (.int k n) h
    | _, _, _ => opQS P R o ty e h K
  | .extract x i => match ev e x with
    | .tuple vs => onV vs[i]? K h
    | _ => False
  | .makeFunc fn first caps => K (.func fn (first.map (ev e)) (caps.map (ev e))) h
  | .call { callee := .value f, args, .. } => callQ P R (ev e f) (args.map (ev e)) h K (opQS P R o ty e h K)
  | o => pvW P o e h K (opQS P R o ty e h K)

variable {ty : TypeId} {e : Env} {h : Heap} {K : Value → Heap → Prop}
theorem bin_val {op : BinOp} {a b : Value} {F : Prop} (H : binW op a b h K F) : F ∨ ∃ v, K v h ∧ ∀ (t : TypeId) (x y : Operand) (w : World), (do eqGuard op t x y a b; binOp op t a b : Sem Value).run P w = .ok v w := by
  unfold binW at H
  split at H
  · rename_i k a k' b
    have hg : ∀ t x y w, (eqGuard op t x y (.int k a) (.int k' b)).run P w = .ok () w := by
      intro t x y w; unfold eqGuard; cases op <;> simp
    right
    split at H
    · obtain ⟨v, hv, hr⟩ := shW_sound (P := P) (k' := k') H (.inl rfl)
      exact ⟨v, hv, fun t x y w => by simp [hg, hr]⟩
    · obtain ⟨v, hv, hr⟩ := shW_sound (P := P) (k' := k') H (.inr rfl)
      exact ⟨v, hv, fun t x y w => by simp [hg, hr]⟩
    · rename_i h1 h2
      obtain ⟨rfl, H⟩ := H
      obtain ⟨v, hv, hr⟩ := intW_sound (P := P) H h1 h2
      exact ⟨v, hv, fun t x y w => by simp [hg, hr]⟩
  · rename_i s s'
    have hg : ∀ t x y w, (eqGuard op t x y (.string s) (.string s')).run P w = .ok () w := by
      intro t x y w; unfold eqGuard; cases op <;> simp
    unfold strW at H
    split at H
    · right
      refine ⟨_, H.2, fun t x y w => ?_⟩
      have : ¬ ((s.size + s'.size : Nat) : Int) > IntKind.i64.max := by
        have h1 := H.1
        have : IntKind.i64.max = 9223372036854775807 := by decide
        omega
      simp only [Sem.run_bind, hg, Result.andThen_ok, binOp, Op.stringOp, this, if_false, Sem.run_pure]
    · right
      refine ⟨_, H, fun t x y w => ?_⟩
      simp only [Sem.run_bind, hg, Result.andThen_ok, binOp, Op.stringOp, Sem.run_pure, bits_size]
    · right
      refine ⟨_, H, fun t x y w => ?_⟩
      simp only [Sem.run_bind, hg, Result.andThen_ok, binOp, Op.stringOp, Sem.run_pure, bits_size]
    · exact .inl H
  · exact .inl H

theorem load_sta (hS : Sta R) {t : TypeId} {v : Value} {h' : Heap} (hR : R h h') (H : loadW P t v h K) : ∃ x, K x h ∧ loadW P t v h (fun y _ => y = x) ∧ loadW P t v h' (fun y _ => y = x) := by
  unfold loadW at H ⊢
  split at H
  case h_2 => exact H.elim
  rename_i p
  have hc : ∀ x, cellH h p = some x → cellH h' p = some x := by
    intro x hx
    cases p with
    | none => simp [cellH] at hx
    | some a =>
      unfold cellH at hx ⊢
      cases hb : h[a.block]? with
      | none => simp [hb] at hx
      | some ob => simp only [hb] at hx; simp only [hS.2.2 _ _ _ _ hR hb]; exact hx
  have hcs : ∀ n x, cellsH h p n = some x → cellsH h' p n = some x := by
    intro n x hx
    cases p with
    | none => simp [cellsH] at hx
    | some a =>
      unfold cellsH at hx ⊢
      cases hb : h[a.block]? with
      | none => simp [hb] at hx
      | some ob => simp only [hb] at hx; simp only [hS.2.2 _ _ _ _ hR hb]; exact hx
  cases hag : aggT P t with
  | none => simp [hag] at H
  | some b =>
    simp only [hag] at H
    cases b with
    | true =>
      obtain ⟨hi, H⟩ := H
      rw [onC_iff] at H
      obtain ⟨cs, h1, h2⟩ := H
      refine ⟨_, h2, ?_, ?_⟩
      · simp only [hag]; exact ⟨hi, onC_iff.2 ⟨cs, h1, rfl⟩⟩
      · simp only [hag]; exact ⟨hi, onC_iff.2 ⟨cs, hcs _ _ h1, rfl⟩⟩
    | false =>
      simp only at H
      rw [onV_iff] at H
      obtain ⟨x, h1, h2⟩ := H
      refine ⟨_, h2, ?_, ?_⟩
      · simp only [hag]; exact onV_iff.2 ⟨x, h1, rfl⟩
      · simp only [hag]; exact onV_iff.2 ⟨x, hc _ h1, rfl⟩

theorem opQS_of {o : Op} (hS : Sta R) (hd : noDefer o = true) (v : Value) (hk : K v h)
    (H : ∀ w : World, (execOp (ev e) { dst := none, op := o, type := ty, pos := "", after := #[], guard := none }).run P w = .ok (.value v) w) : opQS P R o ty e h K :=
  ⟨v, fun h' _ => opSem_pure hd v ⟨rfl, hS.1 _⟩ fun w _ => H w, hk⟩

theorem opQW_sound (hS : Sta R) {o : Op} (H : opQW P R o ty e h K) : opQS P R o ty e h K := by
  have oth : ∀ {o : Op}, pvW P o e h K (opQS P R o ty e h K) → opQS P R o ty e h K := fun H => by
    rcases pvW_sound H with h1 | ⟨hd, v, hk, hr⟩
    · exact h1
    · exact opQS_of hS hd v hk fun w => hr ty w
  cases o
  case move x => exact opQS_of hS rfl _ H fun w => rfl
  case assign x => exact opQS_of hS rfl _ H fun w => rfl
  case pick c a b =>
    simp only [opQW] at H
    split at H
    · rename_i t ht
      exact opQS_of hS rfl _ H fun w => by simp [execOp, ht, asBool]
    · exact H.elim
  case load t x =>
    obtain ⟨y, hk, h0, _⟩ := load_sta (h' := h) hS (hS.1 _) (K := K) (v := ev e x) (t := t) (P := P) H
    refine ⟨y, fun h' hR => ?_, hk⟩
    obtain ⟨z, hz, _, h2⟩ := load_sta hS hR h0
    subst hz
    obtain ⟨v, hv, hr⟩ := load_sound h2
    subst hv
    exact opSem_pure rfl v ⟨rfl, hS.1 _⟩ fun w hw => by simp [execOp, hr w hw]
  case fieldAddr s x f =>
    simp only [opQW, opW] at H
    split at H
    · rename_i a ha
      obtain ⟨hsp, H⟩ := H
      rw [onSome_iff] at H
      obtain ⟨off, ho, hk⟩ := H
      unfold fieldOff at ho
      split at ho
      · rename_i fs hu
        split at ho
        · rename_i fd hfd
          split at ho
          · rename_i hsz
            cases ho
            simp only [Bool.and_eq_true, decide_eq_true_eq] at hsz
            obtain ⟨inf, hi⟩ := Option.isSome_iff_exists.1 hsz.1
            have hs : inf.size ≠ 0 := by simpa [szT, hi] using hsz.2
            refine opQS_of hS rfl _ hk fun w => ?_
            simp [execOp, ha, Instr.fieldAt, run_underlying hu, hfd, Instr.sureAddr, fieldPlace, addA_eq, sizeOf, typeInfo, hi, hs]
          · cases ho
        · cases ho
      · cases ho
    · exact H.elim
  case indexAddr t x i =>
    obtain ⟨v, hk, hr⟩ := idx_sound (K := K) (P := P) H
    exact opQS_of hS rfl v hk fun w => by simp [execOp, hr w]
  case nilCheck x =>
    simp only [opQW] at H
    split at H
    · rename_i a ha
      exact opQS_of hS rfl _ H fun w => by simp [execOp, ha]
    · exact H
  case binOp op t x y yt =>
    rcases bin_val (P := P) H with hF | ⟨v, hk, hr⟩
    · exact hF
    · exact opQS_of hS rfl v hk fun w => by
        have := hr t x y w
        simp only [execOp, Sem.run_bind] at this ⊢
        rw [this]; rfl
  case unOp op t x =>
    cases op <;> simp only [opQW] at H <;> try exact oth H
    split at H
    · rename_i b hb
      exact opQS_of hS rfl _ H fun w => by simp [execOp, hb, Op.unary]
    · exact H.elim
  case convert s d x =>
    simp only [opQW] at H
    split at H
    · rename_i hx hu hs
      obtain ⟨hin, hk⟩ := H
      refine opQS_of hS rfl _ hk fun w => ?_
      simp [execOp, hx, convert, run_underlying hu, run_underlying hs, Conv.intToInt, wrap_inK hin]
    · exact H
  case extract x i =>
    simp only [opQW] at H
    split at H
    · rename_i vs hv
      rw [onV_iff] at H
      obtain ⟨v, h1, hk⟩ := H
      exact opQS_of hS rfl v hk fun w => by simp [execOp, hv, Instr.extract, h1]
    · exact H.elim
  case makeFunc fn first caps => exact opQS_of hS rfl _ H fun w => by simp [execOp, Instr.makeFunc]
  case call c =>
    obtain ⟨cal, args, ats⟩ := c
    cases cal with
    | value f =>
      simp only [opQW, callQ] at H
      split at H
      · rename_i g first caps hf
        obtain ⟨r, hr, hk⟩ := H
        refine ⟨r, fun h' hR => ?_, hk⟩
        refine call_sound (F := False) ?_ (fun h => h.elim)
        rw [hf]
        exact hr h' hR
      · exact H
    | _ => exact oth H
  all_goals exact oth H

/-- An operation that only computes, and does not look at the heap. -/
def opPW (P : Program) (o : Op) (e : Env) (h : Heap) (K : Value → Heap → Prop) : Prop :=
  match o with
  | .move x => K (ev e x) h
  | .assign x => K (ev e x) h
  | .pick c a b => match ev e c with | .bool t => K (if t then ev e a else ev e b) h | _ => False
  | .fieldAddr s x f => opW P (.fieldAddr s x f) 0 e h K
  | .indexAddr t x i => idxW P t (ev e x) (ev e i) h K
  | .nilCheck x => match ev e x with | .pointer (some a) => K (.pointer (some a)) h | _ => False
  | .binOp op _ x y _ => binW op (ev e x) (ev e y) h K False
  | .unOp .not _ x => match ev e x with | .bool b => K (.bool (!b)) h | _ => False
  | .extract x i => match ev e x with
    | .tuple vs => onV vs[i]? K h
    | _ => False
  | .makeFunc fn first caps => K (.func fn (first.map (ev e)) (caps.map (ev e))) h
  | .convert s d x => match ev e x, P.underlying d, P.underlying s with
    | .int _ n, some (.int k), some (.int _) => InK k n ∧ K (.int k n) h
    | _, _, _ => False
  | o => pvW P o e h K False
theorem opPW_sound {o : Op} (H : opPW P o e h K) : noDefer o = true ∧ ∃ v, K v h ∧ ∀ w : World, (execOp (ev e) { dst := none, op := o, type := ty, pos := "", after := #[], guard := none }).run P w = .ok (.value v) w := by
  have oth : ∀ {o : Op}, pvW P o e h K False → noDefer o = true ∧ ∃ v, K v h ∧ ∀ w : World, (execOp (ev e) { dst := none, op := o, type := ty, pos := "", after := #[], guard := none }).run P w = .ok (.value v) w := fun H => by
    rcases pvW_sound H with h1 | ⟨hd, v, hk, hr⟩
    · exact h1.elim
    · exact ⟨hd, v, hk, fun w => hr ty w⟩
  cases o
  case move x => exact ⟨rfl, _, H, fun w => rfl⟩
  case assign x => exact ⟨rfl, _, H, fun w => rfl⟩
  case pick c a b =>
    simp only [opPW] at H
    split at H
    · rename_i t ht
      exact ⟨rfl, _, H, fun w => by simp [execOp, ht, asBool]⟩
    · exact H.elim
  case fieldAddr s x f =>
    simp only [opPW, opW] at H
    split at H
    · rename_i a ha
      obtain ⟨hsp, H⟩ := H
      rw [onSome_iff] at H
      obtain ⟨off, ho, hk⟩ := H
      unfold fieldOff at ho
      split at ho
      · rename_i fs hu
        split at ho
        · rename_i fd hfd
          split at ho
          · rename_i hsz
            cases ho
            simp only [Bool.and_eq_true, decide_eq_true_eq] at hsz
            obtain ⟨inf, hi⟩ := Option.isSome_iff_exists.1 hsz.1
            have hs : inf.size ≠ 0 := by simpa [szT, hi] using hsz.2
            refine ⟨rfl, _, hk, fun w => ?_⟩
            simp [execOp, ha, Instr.fieldAt, run_underlying hu, hfd, Instr.sureAddr, fieldPlace, addA_eq, sizeOf, typeInfo, hi, hs]
          · cases ho
        · cases ho
      · cases ho
    · exact H.elim
  case indexAddr t x i =>
    obtain ⟨v, hk, hr⟩ := idx_sound (K := K) (P := P) H
    exact ⟨rfl, v, hk, fun w => by simp [execOp, hr w]⟩
  case nilCheck x =>
    simp only [opPW] at H
    split at H
    · rename_i a ha
      exact ⟨rfl, _, H, fun w => by simp [execOp, ha]⟩
    · exact H.elim
  case binOp op t x y yt =>
    rcases bin_val (P := P) H with hF | ⟨v, hk, hr⟩
    · exact hF.elim
    · exact ⟨rfl, v, hk, fun w => by
        have := hr t x y w
        simp only [execOp, Sem.run_bind] at this ⊢
        rw [this]; rfl⟩
  case unOp op t x =>
    cases op <;> simp only [opPW] at H <;> try exact oth H
    split at H
    · rename_i b hb
      exact ⟨rfl, _, H, fun w => by simp [execOp, hb, Op.unary]⟩
    · exact H.elim
  case extract x i =>
    simp only [opPW] at H
    split at H
    · rename_i vs hv
      rw [onV_iff] at H
      obtain ⟨v, h1, hk⟩ := H
      exact ⟨rfl, v, hk, fun w => by simp [execOp, hv, Instr.extract, h1]⟩
    · exact H.elim
  case makeFunc fn first caps => exact ⟨rfl, _, H, fun w => by simp [execOp, Instr.makeFunc]⟩
  case convert s d x =>
    simp only [opPW] at H
    split at H
    · rename_i hx hu hs
      obtain ⟨hin, hk⟩ := H
      exact ⟨rfl, _, hk, fun w => by simp [execOp, hx, convert, run_underlying hu, run_underlying hs, Conv.intToInt, wrap_inK hin]⟩
    · exact H.elim
  all_goals exact oth H

/-- The plan: at each place an operation's number, and how it is taken: 0: quiet; 1: alone; 2: alone, and keeping R. -/
def execD (P : Program) (R : Heap → Heap → Prop) (all : List Oper) : List (Nat × Nat) → Cont → Env → List Deferred → Heap → Prop
  | [], k, e, d, h => ∀ h', R h h' → k .normal e d h'
  | (i, 0) :: rest, k, e, d, h => match all[i]? with
    | some o => guardW o.guard all e (fun e => opQW P R o.op o.type e h (fun v h' => execD P R all rest k (putE e o.dst v) d h')) (fun e => execD P R all rest k (putE e o.dst undef) d h)
    | none => False
  | (i, 1) :: rest, k, e, d, h => match all[i]? with
    | some o => ∀ h', R h h' → guardW o.guard all e (fun e => opW P o.op o.type e h' (fun v h'' => execD P R all rest k (putE e o.dst v) d h'')) (fun e => execD P R all rest k (putE e o.dst undef) d h')
    | none => False
  | (i, 3) :: rest, k, e, d, h => match all[i]? with
    | some o => guardW o.guard all e (fun e => opPW P o.op e h (fun v h' => execD P R all rest k (putE e o.dst v) d h')) (fun e => execD P R all rest k (putE e o.dst undef) d h)
    | none => False
  | (i, _) :: rest, k, e, d, h => match all[i]? with
    | some o => ∀ h', R h h' → guardW o.guard all e (fun e => opW P o.op o.type e h' (fun v h'' => R h' h'' ∧ execD P R all rest k (putE e o.dst v) d h'')) (fun e => execD P R all rest k (putE e o.dst undef) d h')
    | none => False
/-- The operations that cannot come up before one. -/
def blk (all : List Oper) (listed : Array Bool) (i : Nat) : Nat → Nat → List Nat → List Nat
  | 0, _, acc => acc
  | n + 1, j, acc => blk all listed i n (j + 1) (if !(listed.getD j true) && j != i && (match all[j]? with | some oj => oj.after.any (fun e => Region.binds .any e && (e.on == i || acc.contains e.on)) | none => false) then j :: acc else acc)
def blkOk (all : List Oper) (listed : Array Bool) (i : Nat) (Bk : List Nat) : Bool :=
  Bk.all fun j => !(listed.getD j true) && j != i && (match all[j]? with | some oj => oj.after.any (fun e => Region.binds .any e && (e.on == i || Bk.contains e.on)) | none => true)
/-- The plan serves: each quiet operation may come up, is apart from all that might come before it, and these keep R; each other one is the only one that may come up. -/
def okPlan (G : Nat → Bool) (all : List Oper) : List (Nat × Nat) → Array Bool → Bool
  | [], listed => (Region.ready .any all.toArray listed).isEmpty
  | (i, 0) :: rest, listed => (Region.ready .any all.toArray listed).contains i && blkOk all listed i (blk all listed i all.length 0 []) &&
      ((List.range all.length).all fun j => j == i || listed.getD j true || (blk all listed i all.length 0 []).contains j || (G j && (match all[i]?, all[j]? with | some oi, some oj => oi.apart all.toArray oj | _, _ => true))) &&
      okPlan G all rest (listed.setIfInBounds i true)
  | (i, 3) :: rest, listed => (Region.ready .any all.toArray listed).contains i && blkOk all listed i (blk all listed i all.length 0 []) &&
      ((List.range all.length).all fun j => j == i || listed.getD j true || (blk all listed i all.length 0 []).contains j || (match all[i]?, all[j]? with | some oi, some oj => oi.apart all.toArray oj | _, _ => true)) &&
      okPlan G all rest (listed.setIfInBounds i true)
  | (i, 1) :: rest, listed => !(G i) && decide (Region.ready .any all.toArray listed = [i]) && okPlan G all rest (listed.setIfInBounds i true)
  | (i, _) :: rest, listed => decide (Region.ready .any all.toArray listed = [i]) && okPlan G all rest (listed.setIfInBounds i true)
def planG (plan : List (Nat × Nat)) (j : Nat) : Bool := plan.any fun s => s.1 == j && s.2 != 1

theorem execD_sound (hS : Sta R) {all : List Oper} {k : Cont} {w0 : World} (hsel : Region.noSelect all.toArray = true) : ∀ (plan : List (Nat × Nat)) (listed : Array Bool) (e : Env) (d : List Deferred) (w : World), Rest w0 w →
    okPlan G all plan listed = true → execD P R all plan k e d w.heap →
    anyR P all.toArray R G (fun a w' => k .normal a.tmps.toList a.defers w'.heap ∧ Rest w0 w') plan.length listed ⟨e.toArray, d⟩ w
  | [], listed, e, d, w, hr, hok, H => fun w1 hr1 hR1 => by
    refine ⟨by simpa [okPlan] using hok, ?_, hr.trans hr1⟩
    simpa using H _ hR1
  | (i, 0) :: rest, listed, e, d, w, hr, hok, H => by
    simp only [okPlan, Bool.and_eq_true] at hok
    obtain ⟨⟨⟨hready, hbk⟩, hG⟩, hok⟩ := hok
    unfold execD at H
    cases hi : all[i]? with
    | none => simp [hi] at H
    | some o =>
      simp only [hi] at H
      have hi' : all.toArray[i]? = some o := by simpa using hi
      obtain ⟨Bk, hBke⟩ : ∃ Bk, Bk = blk all listed i all.length 0 [] := ⟨_, rfl⟩
      rw [← hBke] at hbk hG
      have hb1 : ∀ j ∈ Bk, listed.getD j true = false := fun j hj => by
        have := List.all_eq_true.1 hbk j hj
        simp only [Bool.and_eq_true, Bool.not_eq_true'] at this
        exact this.1.1
      have hb2 : ∀ j ∈ Bk, j ≠ i ∧ ∀ oj, all.toArray[j]? = some oj → ∃ e ∈ oj.after, Region.binds .any e = true ∧ (e.on = i ∨ e.on ∈ Bk) := fun j hj => by
        have := List.all_eq_true.1 hbk j hj
        simp only [Bool.and_eq_true, bne_iff_ne, ne_eq] at this
        refine ⟨this.1.2, fun oj hoj => ?_⟩
        have hj2 : all[j]? = some oj := by simpa using hoj
        have h2 := this.2
        rw [hj2] at h2
        obtain ⟨e, he, hb⟩ := Array.any_eq_true'.1 h2
        simp only [Bool.and_eq_true, Bool.or_eq_true, beq_iff_eq, List.contains_eq_mem, decide_eq_true_eq] at hb
        exact ⟨e, he, hb.1, hb.2⟩
      have hfr : ∀ j oj, all.toArray[j]? = some oj → j ≠ i → listed.getD j true = false → j ∉ Bk → o.apart all.toArray oj = true ∧ G j = true := by
        intro j oj hj hne hun hno
        have hlt : j < all.length := by have := (Array.getElem?_eq_some_iff.1 hj).1; simpa using this
        have := List.all_eq_true.1 hG j (List.mem_range.2 hlt)
        have hj2 : all[j]? = some oj := by simpa using hj
        simp only [hi, hj2, Bool.or_eq_true, Bool.and_eq_true, beq_iff_eq, hne, false_or, hun, Bool.false_eq_true, List.contains_eq_mem, decide_eq_true_eq, hno] at this
        exact ⟨this.2, this.1⟩
      have hrdy : i ∈ Region.ready .any all.toArray listed := by simpa using hready
      rcases guard_sound H o rfl with ⟨hw, hA⟩ | ⟨hw, hB⟩
      · obtain ⟨v, hv, hk⟩ := opQW_sound hS hA
        refine anyR_first hS hi' (Region.noSelect_spec hsel) Bk hb2 rest.length listed _ w hfr hb1 hrdy (v := v) ?_ ?_
        · refine .inl ⟨hw, fun w' hr' hR' => ?_⟩
          have h1 := hv _ hR'
          refine ⟨h1.1, ?_⟩
          have h2 := h1.2 w' rfl
          rw [eval_ev, execOp_only]
          unfold semPost at h2
          unfold semPostW
          split at h2
          · exact h2
          · exact h2
          · exact h2
          · exact h2
          · exact h2.elim
        · rw [put_putE]
          exact execD_sound hS hsel rest _ _ d w hr hok hk
      · refine anyR_first hS hi' (Region.noSelect_spec hsel) Bk hb2 rest.length listed _ w hfr hb1 hrdy (v := undef) (.inr ⟨hw, rfl⟩) ?_
        rw [put_putE]
        exact execD_sound hS hsel rest _ _ d w hr hok hB
  | (i, 1) :: rest, listed, e, d, w, hr, hok, H => by
    simp only [okPlan, Bool.and_eq_true, decide_eq_true_eq, Bool.not_eq_true'] at hok
    obtain ⟨⟨hG, hready⟩, hok⟩ := hok
    unfold execD at H
    cases hi : all[i]? with
    | none => simp [hi] at H
    | some o =>
      simp only [hi] at H
      have hi' : all.toArray[i]? = some o := by simpa using hi
      intro w1 hr1 hR1
      have H := H _ hR1
      rw [hready]
      refine ⟨fun h => by simp at h, fun j hj => ?_⟩
      have hj : j = i := by simpa using hj
      subst hj
      unfold opD
      simp only [hi']
      rcases guard_sound H o rfl with ⟨hw, hA⟩ | ⟨hw, hB⟩
      · simp only [hw, if_true]
        have h1 := opW_sound hA
        refine ⟨h1.1, ?_⟩
        have h2 := h1.2 w1 rfl
        rw [eval_ev, execOp_only]
        have fin : ∀ v w', Rest w1 w' → execD P R all rest k (putE e o.dst v) d w'.heap →
            (G j = true → R w1.heap w'.heap) ∧ Rest w1 w' ∧ anyR P all.toArray R G (fun a w' => k .normal a.tmps.toList a.defers w'.heap ∧ Rest w0 w') rest.length (listed.setIfInBounds j true) ((Act.mk e.toArray d).put o.dst v) w' := by
          intro v w' hr' hk
          refine ⟨fun h => (by rw [hG] at h; cases h), hr', ?_⟩
          rw [put_putE]
          exact execD_sound hS hsel rest _ _ d w' (hr.trans (hr1.trans hr')) hok hk
        unfold semPost at h2
        unfold semPostW
        split at h2
        · exact ⟨fin _ _ h2.2 h2.1, h2.2⟩
        · exact ⟨fin _ _ h2.2 h2.1, h2.2⟩
        · exact ⟨h2.1, Calls.mono h2.2 fun x w'' ⟨v, hx, hv, hr''⟩ => ⟨v, hx, fin v w'' (h2.1.trans hr'') hv, hr''⟩⟩
        · exact ⟨h2.1, RoundIn.mono h2.2 fun x w'' ⟨v, hx, hv, hr''⟩ => ⟨v, hx, fin v w'' (h2.1.trans hr'') hv, hr''⟩⟩
        · exact h2.elim
      · simp only [hw]
        refine ⟨fun _ => hS.1 _, Rest.refl _, ?_⟩
        rw [put_putE]
        exact execD_sound hS hsel rest _ _ d w1 (hr.trans hr1) hok hB

  | (i, 2) :: rest, listed, e, d, w, hr, hok, H => by
    simp only [okPlan, Bool.and_eq_true, decide_eq_true_eq] at hok
    obtain ⟨hready, hok⟩ := hok
    unfold execD at H
    cases hi : all[i]? with
    | none => simp [hi] at H
    | some o =>
      simp only [hi] at H
      have hi' : all.toArray[i]? = some o := by simpa using hi
      intro w1 hr1 hR1
      have H := H _ hR1
      rw [hready]
      refine ⟨fun h => by simp at h, fun j hj => ?_⟩
      have hj : j = i := by simpa using hj
      subst hj
      unfold opD
      simp only [hi']
      rcases guard_sound H o rfl with ⟨hw, hA⟩ | ⟨hw, hB⟩
      · simp only [hw, if_true]
        have h1 := opW_sound hA
        refine ⟨h1.1, ?_⟩
        have h2 := h1.2 w1 rfl
        rw [eval_ev, execOp_only]
        have fin : ∀ v w', Rest w1 w' → (R w1.heap w'.heap ∧ execD P R all rest k (putE e o.dst v) d w'.heap) →
            (G j = true → R w1.heap w'.heap) ∧ Rest w1 w' ∧ anyR P all.toArray R G (fun a w' => k .normal a.tmps.toList a.defers w'.heap ∧ Rest w0 w') rest.length (listed.setIfInBounds j true) ((Act.mk e.toArray d).put o.dst v) w' := by
          rintro v w' hr' ⟨hg, hk⟩
          refine ⟨fun _ => hg, hr', ?_⟩
          rw [put_putE]
          exact execD_sound hS hsel rest _ _ d w' (hr.trans (hr1.trans hr')) hok hk
        unfold semPost at h2
        unfold semPostW
        split at h2
        · exact ⟨fin _ _ h2.2 h2.1, h2.2⟩
        · exact ⟨fin _ _ h2.2 h2.1, h2.2⟩
        · exact ⟨h2.1, Calls.mono h2.2 fun x w'' ⟨v, hx, hv, hr''⟩ => ⟨v, hx, fin v w'' (h2.1.trans hr'') hv, hr''⟩⟩
        · exact ⟨h2.1, RoundIn.mono h2.2 fun x w'' ⟨v, hx, hv, hr''⟩ => ⟨v, hx, fin v w'' (h2.1.trans hr'') hv, hr''⟩⟩
        · exact h2.elim
      · simp only [hw]
        refine ⟨fun _ => hS.1 _, Rest.refl _, ?_⟩
        rw [put_putE]
        exact execD_sound hS hsel rest _ _ d w1 (hr.trans hr1) hok hB
  | (i, 3) :: rest, listed, e, d, w, hr, hok, H => by
    simp only [okPlan, Bool.and_eq_true] at hok
    obtain ⟨⟨⟨hready, hbk⟩, hG⟩, hok⟩ := hok
    unfold execD at H
    cases hi : all[i]? with
    | none => simp [hi] at H
    | some o =>
      simp only [hi] at H
      have hi' : all.toArray[i]? = some o := by simpa using hi
      obtain ⟨Bk, hBke⟩ : ∃ Bk, Bk = blk all listed i all.length 0 [] := ⟨_, rfl⟩
      rw [← hBke] at hbk hG
      have hb1 : ∀ j ∈ Bk, listed.getD j true = false := fun j hj => by
        have := List.all_eq_true.1 hbk j hj
        simp only [Bool.and_eq_true, Bool.not_eq_true'] at this
        exact this.1.1
      have hb2 : ∀ j ∈ Bk, j ≠ i ∧ ∀ oj, all.toArray[j]? = some oj → ∃ e ∈ oj.after, Region.binds .any e = true ∧ (e.on = i ∨ e.on ∈ Bk) := fun j hj => by
        have := List.all_eq_true.1 hbk j hj
        simp only [Bool.and_eq_true, bne_iff_ne, ne_eq] at this
        refine ⟨this.1.2, fun oj hoj => ?_⟩
        have hj2 : all[j]? = some oj := by simpa using hoj
        have h2 := this.2
        rw [hj2] at h2
        obtain ⟨e, he, hb⟩ := Array.any_eq_true'.1 h2
        simp only [Bool.and_eq_true, Bool.or_eq_true, beq_iff_eq, List.contains_eq_mem, decide_eq_true_eq] at hb
        exact ⟨e, he, hb.1, hb.2⟩
      have hfr : ∀ j oj, all.toArray[j]? = some oj → j ≠ i → listed.getD j true = false → j ∉ Bk → o.apart all.toArray oj = true := by
        intro j oj hj hne hun hno
        have hlt : j < all.length := by have := (Array.getElem?_eq_some_iff.1 hj).1; simpa using this
        have := List.all_eq_true.1 hG j (List.mem_range.2 hlt)
        have hj2 : all[j]? = some oj := by simpa using hj
        simp only [hi, hj2, Bool.or_eq_true, Bool.and_eq_true, beq_iff_eq, hne, false_or, hun, Bool.false_eq_true, List.contains_eq_mem, decide_eq_true_eq, hno] at this
        exact this
      have hrdy : i ∈ Region.ready .any all.toArray listed := by simpa using hready
      rcases guard_sound H o rfl with ⟨hw, hA⟩ | ⟨hw, hB⟩
      · obtain ⟨hd, v, hk, hv⟩ := opPW_sound (ty := o.type) hA
        refine anyR_firstP hS hi' (Region.noSelect_spec hsel) Bk hb2 rest.length listed _ w hfr hb1 hrdy (v := v) ?_ ?_
        · refine .inl ⟨hw, fun w' hr' => ⟨hd, ?_⟩⟩
          rw [eval_ev, execOp_only, hv w']
          exact ⟨⟨rfl, rfl⟩, Rest.refl _⟩
        · rw [put_putE]
          exact execD_sound hS hsel rest _ _ d w hr hok hk
      · refine anyR_firstP hS hi' (Region.noSelect_spec hsel) Bk hb2 rest.length listed _ w hfr hb1 hrdy (v := undef) (.inr ⟨hw, rfl⟩) ?_
        rw [put_putE]
        exact execD_sound hS hsel rest _ _ d w hr hok hB
  | (i, c + 4) :: rest, listed, e, d, w, hr, hok, H => by
    simp only [okPlan, Bool.and_eq_true, decide_eq_true_eq] at hok
    obtain ⟨hready, hok⟩ := hok
    unfold execD at H
    cases hi : all[i]? with
    | none => simp [hi] at H
    | some o =>
      simp only [hi] at H
      have hi' : all.toArray[i]? = some o := by simpa using hi
      intro w1 hr1 hR1
      have H := H _ hR1
      rw [hready]
      refine ⟨fun h => by simp at h, fun j hj => ?_⟩
      have hj : j = i := by simpa using hj
      subst hj
      unfold opD
      simp only [hi']
      rcases guard_sound H o rfl with ⟨hw, hA⟩ | ⟨hw, hB⟩
      · simp only [hw, if_true]
        have h1 := opW_sound hA
        refine ⟨h1.1, ?_⟩
        have h2 := h1.2 w1 rfl
        rw [eval_ev, execOp_only]
        have fin : ∀ v w', Rest w1 w' → (R w1.heap w'.heap ∧ execD P R all rest k (putE e o.dst v) d w'.heap) →
            (G j = true → R w1.heap w'.heap) ∧ Rest w1 w' ∧ anyR P all.toArray R G (fun a w' => k .normal a.tmps.toList a.defers w'.heap ∧ Rest w0 w') rest.length (listed.setIfInBounds j true) ((Act.mk e.toArray d).put o.dst v) w' := by
          rintro v w' hr' ⟨hg, hk⟩
          refine ⟨fun _ => hg, hr', ?_⟩
          rw [put_putE]
          exact execD_sound hS hsel rest _ _ d w' (hr.trans (hr1.trans hr')) hok hk
        unfold semPost at h2
        unfold semPostW
        split at h2
        · exact ⟨fin _ _ h2.2 h2.1, h2.2⟩
        · exact ⟨fin _ _ h2.2 h2.1, h2.2⟩
        · exact ⟨h2.1, Calls.mono h2.2 fun x w'' ⟨v, hx, hv, hr''⟩ => ⟨v, hx, fin v w'' (h2.1.trans hr'') hv, hr''⟩⟩
        · exact ⟨h2.1, RoundIn.mono h2.2 fun x w'' ⟨v, hx, hv, hr''⟩ => ⟨v, hx, fin v w'' (h2.1.trans hr'') hv, hr''⟩⟩
        · exact h2.elim
      · simp only [hw]
        refine ⟨fun _ => hS.1 _, Rest.refl _, ?_⟩
        rw [put_putE]
        exact execD_sound hS hsel rest _ _ d w1 (hr.trans hr1) hok hB

theorem WP_draw (hm : P.follows .mixedOrders = true) (hS : Sta R) {id : Nat} {all : List Oper} {k : Cont} {d : List Deferred} (plan : List (Nat × Nat))
    (hsel : Region.noSelect all.toArray = true) (hlen : plan.length = all.length) (hok : okPlan (planG plan) all plan (Array.replicate all.length false) = true)
    (H : execD P R all plan k e d h) : WP l P (.region id all.toArray true) k e d h := by
  intro w hw
  subst hw
  refine wpIn_region_any hm ?_
  have h1 := execD_sound (w0 := w) (G := planG plan) hS hsel plan _ e d { w with drawn := w.drawn + 1 } ⟨rfl, rfl, rfl⟩ hok H
  rw [hlen] at h1
  have h2 := wpAny_of_anyR (l := l) (Q' := fun x a w' => k x a.tmps.toList a.defers w'.heap ∧ Rest w w') hS (fun a w' hq => hq) _ _ _ _ h1
  simpa using h2

def EqH (a b : Heap) : Prop := b = a
theorem sta_eq : Sta EqH := ⟨fun _ => rfl, fun _ _ _ h k => Eq.trans k h, fun _ _ _ _ h k => by rw [show _ = _ from h]; exact k⟩
theorem sta_ext : Sta Ext := ⟨Ext.refl, fun _ _ _ h k => h.trans k, fun _ _ _ _ h k => h.get k⟩

/-! #### the equations of a plan's walk -/
section planeqs
variable {all : List Oper} {rest : List (Nat × Nat)} {k : Cont} {d : List Deferred} {dst : Option Tmp} {op : Op} {pos : String} {after : Array Edge} {i j : Nat} {want : Bool} {s : Tmp} {p : Prop} [Decidable p] {vs : Array Value} {t : TypeId} {b : Bool}
def setD (P : Program) (R : Heap → Heap → Prop) (all : List Oper) (rest : List (Nat × Nat)) (k : Cont) (dst : Option Tmp) (e : Env) (d : List Deferred) : Value → Heap → Prop := fun v h => execD P R all rest k (putE e dst v) d h
theorem setD_eq {v : Value} : setD P R all rest k dst e d v h = execD P R all rest k (putE e dst v) d h := eqi rfl
def hvK (R : Heap → Heap → Prop) (k : Cont) (e : Env) (d : List Deferred) (h : Heap) : Prop := ∀ h', R h h' → k .normal e d h'
theorem execD_nil : execD P R all [] k e d h = hvK R k e d h := eqi rfl
theorem hvK_eq : hvK EqH k e d h = k .normal e d h := propext ⟨fun H => H h rfl, fun H h' hh => by rw [show h' = h from hh]; exact H⟩
theorem hvK_ext (H : ∀ h', Ext h h' → k .normal e d h') : hvK Ext k e d h := H
def gq (P : Program) (R : Heap → Heap → Prop) (v : Value) (s : Tmp) (want : Bool) (op : Op) (ty : TypeId) (all : List Oper) (rest : List (Nat × Nat)) (k : Cont) (dst : Option Tmp) (e : Env) (d : List Deferred) (h : Heap) : Prop :=
  boolW v (fun b => if b = want then opQW P R op ty (e.set s (.bool b)) h (setD P R all rest k dst (e.set s (.bool b)) d) else execD P R all rest k (putE (e.set s (.bool b)) dst undef) d h) (execD P R all rest k (putE e dst undef) d h)
def gqo (P : Program) (R : Heap → Heap → Prop) (s : Option Tmp) (want : Bool) (op : Op) (ty : TypeId) (all : List Oper) (rest : List (Nat × Nat)) (k : Cont) (dst : Option Tmp) (e : Env) (d : List Deferred) (h : Heap) : Prop :=
  match s with | some s => gq P R (e.getD s undef) s want op ty all rest k dst e d h | none => execD P R all rest k (putE e dst undef) d h
def stq (P : Program) (R : Heap → Heap → Prop) (o : Option Oper) (all : List Oper) (rest : List (Nat × Nat)) (k : Cont) (e : Env) (d : List Deferred) (h : Heap) : Prop :=
  match o with
  | some o => guardW o.guard all e (fun e => opQW P R o.op o.type e h (fun v h' => execD P R all rest k (putE e o.dst v) d h')) (fun e => execD P R all rest k (putE e o.dst undef) d h)
  | none => False
theorem execD_quiet : execD P R all ((i, 0) :: rest) k e d h = stq P R all[i]? all rest k e d h := by simp only [execD, stq]
theorem stq_plain : stq P R (some ⟨dst, op, ty, pos, after, none⟩) all rest k e d h = opQW P R op ty e h (setD P R all rest k dst e d) := eqi rfl
theorem stq_guard : stq P R (some ⟨dst, op, ty, pos, after, some (j, want)⟩) all rest k e d h = gqo P R (gslot all j) want op ty all rest k dst e d h := by
  simp only [stq, guardW, gqo]; cases gslot all j <;> rfl
theorem gqo_some : gqo P R (some s) want op ty all rest k dst e d h = gq P R (e.getD s undef) s want op ty all rest k dst e d h := eqi rfl
theorem gq_tt : gq P R (.bool true) s true op ty all rest k dst e d h = opQW P R op ty (e.set s (.bool true)) h (setD P R all rest k dst (e.set s (.bool true)) d) := by simp [gq, boolW]
theorem gq_ff : gq P R (.bool false) s false op ty all rest k dst e d h = opQW P R op ty (e.set s (.bool false)) h (setD P R all rest k dst (e.set s (.bool false)) d) := by simp [gq, boolW]
theorem gq_tf : gq P R (.bool true) s false op ty all rest k dst e d h = execD P R all rest k (putE (e.set s (.bool true)) dst undef) d h := by simp [gq, boolW]
theorem gq_ft : gq P R (.bool false) s true op ty all rest k dst e d h = execD P R all rest k (putE (e.set s (.bool false)) dst undef) d h := by simp [gq, boolW]
theorem gq_undef {w : Bool} : gq P R (.tuple vs) s w op ty all rest k dst e d h = execD P R all rest k (putE e dst undef) d h := by simp [gq, boolW]
theorem gq_dec_t : gq P R (.bool (decide p)) s true op ty all rest k dst e d h = ((p → opQW P R op ty (e.set s (.bool true)) h (setD P R all rest k dst (e.set s (.bool true)) d)) ∧ (¬ p → execD P R all rest k (putE (e.set s (.bool false)) dst undef) d h)) := by
  by_cases hp : p <;> simp [gq, boolW, hp]
theorem gq_dec_f : gq P R (.bool (decide p)) s false op ty all rest k dst e d h = ((p → execD P R all rest k (putE (e.set s (.bool true)) dst undef) d h) ∧ (¬ p → opQW P R op ty (e.set s (.bool false)) h (setD P R all rest k dst (e.set s (.bool false)) d))) := by
  by_cases hp : p <;> simp [gq, boolW, hp]
theorem gq_ndec_t : gq P R (.bool (!decide p)) s true op ty all rest k dst e d h = ((p → execD P R all rest k (putE (e.set s (.bool false)) dst undef) d h) ∧ (¬ p → opQW P R op ty (e.set s (.bool true)) h (setD P R all rest k dst (e.set s (.bool true)) d))) := by
  by_cases hp : p <;> simp [gq, boolW, hp]
theorem gq_ndec_f : gq P R (.bool (!decide p)) s false op ty all rest k dst e d h = ((p → opQW P R op ty (e.set s (.bool false)) h (setD P R all rest k dst (e.set s (.bool false)) d)) ∧ (¬ p → execD P R all rest k (putE (e.set s (.bool true)) dst undef) d h)) := by
  by_cases hp : p <;> simp [gq, boolW, hp]
theorem gq_bool_t : gq P R (.bool b) s true op ty all rest k dst e d h = ((b = true → opQW P R op ty (e.set s (.bool true)) h (setD P R all rest k dst (e.set s (.bool true)) d)) ∧ (b = false → execD P R all rest k (putE (e.set s (.bool false)) dst undef) d h)) := by
  cases b <;> simp [gq, boolW]
theorem gq_bool_f : gq P R (.bool b) s false op ty all rest k dst e d h = ((b = true → execD P R all rest k (putE (e.set s (.bool true)) dst undef) d h) ∧ (b = false → opQW P R op ty (e.set s (.bool false)) h (setD P R all rest k dst (e.set s (.bool false)) d))) := by
  cases b <;> simp [gq, boolW]
/-- One taken alone, at equal heaps. -/
def sts (P : Program) (o : Option Oper) (all : List Oper) (rest : List (Nat × Nat)) (k : Cont) (e : Env) (d : List Deferred) (h : Heap) : Prop :=
  match o with
  | some o => guardW o.guard all e (fun e => opW P o.op o.type e h (fun v h'' => execD P EqH all rest k (putE e o.dst v) d h'')) (fun e => execD P EqH all rest k (putE e o.dst undef) d h)
  | none => False
theorem execD_alone : execD P EqH all ((i, 1) :: rest) k e d h = sts P all[i]? all rest k e d h := by
  simp only [execD, sts]
  cases all[i]? with
  | none => rfl
  | some o => exact propext ⟨fun H => H h rfl, fun H h' hh => by rw [show h' = h from hh]; exact H⟩
theorem sts_plain : sts P (some ⟨dst, op, ty, pos, after, none⟩) all rest k e d h = opW P op ty e h (setD P EqH all rest k dst e d) := eqi rfl
theorem execD_alone_ext {o : Oper} (ho : all[i]? = some o) (hg : o.guard = none) (H : ∀ h', Ext h h' → opW P o.op o.type e h' (setD P Ext all rest k o.dst e d)) : execD P Ext all ((i, 1) :: rest) k e d h := by
  simp only [execD, ho, hg]; exact H
theorem execD_keep_ext {o : Oper} (ho : all[i]? = some o) (hg : o.guard = none) (H : ∀ h', Ext h h' → opW P o.op o.type e h' (fun v h'' => Ext h' h'' ∧ setD P Ext all rest k o.dst e d v h'')) : execD P Ext all ((i, 2) :: rest) k e d h := by
  simp only [execD, ho, hg]; exact H
theorem opQW_move {x : Operand} : opQW P R (.move x) ty e h K = K (ev e x) h := eqi rfl
theorem opQW_assign {x : Operand} : opQW P R (.assign x) ty e h K = K (ev e x) h := eqi rfl
theorem opQW_pick {c a b : Operand} : opQW P R (.pick c a b) ty e h K = pkW (ev e c) (ev e a) (ev e b) h K := eqi rfl
theorem opQW_load {x : Operand} : opQW P R (.load t x) ty e h K = loadW P t (ev e x) h K := eqi rfl
theorem opQW_fieldAddr {s : TypeId} {x : Operand} {f : Nat} : opQW P R (.fieldAddr s x f) ty e h K = faW (ev e x) (fieldOff P s f) h K := eqi rfl
theorem opQW_indexAddr {x i : Operand} : opQW P R (.indexAddr t x i) ty e h K = idxW P t (ev e x) (ev e i) h K := eqi rfl
theorem opQW_nilCheck {x : Operand} : opQW P R (.nilCheck x) ty e h K = ncW (ev e x) (opQS P R (.nilCheck x) ty e h K) h K := by simp only [opQW, ncW]
theorem opQW_binOp {op : BinOp} {x y : Operand} {yt : TypeId} : opQW P R (.binOp op t x y yt) ty e h K = binW op (ev e x) (ev e y) h K (opQS P R (.binOp op t x y yt) ty e h K) := eqi rfl
theorem opQW_not {x : Operand} : opQW P R (.unOp .not t x) ty e h K = ntW (ev e x) h K := eqi rfl
theorem opQW_conv {s u : TypeId} {x : Operand} : opQW P R (.convert s u x) ty e h K = cvW (ev e x) (P.underlying u) (P.underlying s) (opQS P R (.convert s u x) ty e h K) h K := by simp only [opQW, cvW]
theorem opQW_extract {x : Operand} {i : Nat} : opQW P R (.extract x i) ty e h K = exW (ev e x) i h K := eqi rfl
theorem opQW_makeFunc {fn : Fn} {first caps : Array Operand} : opQW P R (.makeFunc fn first caps) ty e h K = K (.func fn (first.map (ev e)) (caps.map (ev e))) h := eqi rfl
def cQ (P : Program) (R : Heap → Heap → Prop) (f : FuncId) (args : Array Value) (h : Heap) (K : Value → Heap → Prop) : Prop := ∃ r, (∀ h', R h h' → CallsH P f args h' (fun v' h'' => v' = r ∧ R h' h'')) ∧ K r h
theorem opQW_call {f : Operand} {args : Array Operand} {ats : Array TypeId} : opQW P R (.call ⟨.value f, args, ats⟩) ty e h K = callQ P R (ev e f) (args.map (ev e)) h K (opQS P R (.call ⟨.value f, args, ats⟩) ty e h K) := eqi rfl
theorem callQ_func {f : FuncId} {first caps args : Array Value} {F : Prop} : callQ P R (.func (.func f) first caps) args h K F = cQ P R f (first ++ args ++ caps) h K := eqi rfl
theorem opQW_builtin {b : Builtin} {args : Array Operand} {ats : Array TypeId} : opQW P R (.call ⟨.builtin b, args, ats⟩) ty e h K = bltW b (args.map (ev e)).toList ((ats[0]?).bind P.underlying) h K (opQS P R (.call ⟨.builtin b, args, ats⟩) ty e h K) := eqi rfl
theorem opQW_build {parts : Array (Nat × Operand)} : opQW P R (.build t parts) ty e h K = bldO (okFields P t) (zeroT P t) (fieldPS P t) (parts.map fun (i, x) => (i, ev e x)).toList h K (opQS P R (.build t parts) ty e h K) := by
  simp only [opQW, pvW, bldW, bldO]
theorem opQW_index {x i : Operand} : opQW P R (.index t x i) ty e h K = idsW (ev e x) (ev e i) (P.underlying t) h K (opQS P R (.index t x i) ty e h K) := eqi rfl
theorem opQW_field {x : Operand} {f : Nat} : opQW P R (.field t x f) ty e h K = fldW P (ev e x) (fieldOT P t f) h K (opQS P R (.field t x f) ty e h K) := eqi rfl
theorem opQW_slice {x : Operand} {a b c : Option Operand} : opQW P R (.slice t x a b c) ty e h K = slcW P (ev e x) (P.underlying t) (a.map (ev e)) (b.map (ev e)) (c.map (ev e)) h K (opQS P R (.slice t x a b c) ty e h K) := eqi rfl
theorem opQW_neg {x : Operand} : opQW P R (.unOp .neg t x) ty e h K = negW (ev e x) h K (opQS P R (.unOp .neg t x) ty e h K) := eqi rfl
theorem opQW_lookup {m x : Operand} {b : Bool} : opQW P R (.lookup t m x b) ty e h K = opQS P R (.lookup t m x b) ty e h K := eqi rfl
theorem opQW_buildSlice {n : Nat} {parts : Array (Nat × Operand)} : opQW P R (.buildSlice t n parts) ty e h K = opQS P R (.buildSlice t n parts) ty e h K := eqi rfl
def stp (P : Program) (R : Heap → Heap → Prop) (o : Option Oper) (all : List Oper) (rest : List (Nat × Nat)) (k : Cont) (e : Env) (d : List Deferred) (h : Heap) : Prop :=
  match o with
  | some o => guardW o.guard all e (fun e => opPW P o.op e h (fun v h' => execD P R all rest k (putE e o.dst v) d h')) (fun e => execD P R all rest k (putE e o.dst undef) d h)
  | none => False
theorem execD_pure : execD P R all ((i, 3) :: rest) k e d h = stp P R all[i]? all rest k e d h := by simp only [execD, stp]
theorem stp_plain : stp P R (some ⟨dst, op, ty, pos, after, none⟩) all rest k e d h = opPW P op e h (setD P R all rest k dst e d) := eqi rfl
theorem opPW_move {x : Operand} : opPW P (.move x) e h K = K (ev e x) h := eqi rfl
theorem opPW_assign {x : Operand} : opPW P (.assign x) e h K = K (ev e x) h := eqi rfl
theorem opPW_pick {c a b : Operand} : opPW P (.pick c a b) e h K = pkW (ev e c) (ev e a) (ev e b) h K := eqi rfl
theorem opPW_fieldAddr {s : TypeId} {x : Operand} {f : Nat} : opPW P (.fieldAddr s x f) e h K = faW (ev e x) (fieldOff P s f) h K := eqi rfl
theorem opPW_indexAddr {x i : Operand} : opPW P (.indexAddr t x i) e h K = idxW P t (ev e x) (ev e i) h K := eqi rfl
theorem opPW_nilCheck {x : Operand} : opPW P (.nilCheck x) e h K = ncW (ev e x) False h K := by simp only [opPW, ncW]
theorem opPW_binOp {op : BinOp} {x y : Operand} {yt : TypeId} : opPW P (.binOp op t x y yt) e h K = binW op (ev e x) (ev e y) h K False := eqi rfl
theorem opPW_not {x : Operand} : opPW P (.unOp .not t x) e h K = ntW (ev e x) h K := eqi rfl
theorem opPW_extract {x : Operand} {i : Nat} : opPW P (.extract x i) e h K = exW (ev e x) i h K := eqi rfl
theorem opPW_makeFunc {fn : Fn} {first caps : Array Operand} : opPW P (.makeFunc fn first caps) e h K = K (.func fn (first.map (ev e)) (caps.map (ev e))) h := eqi rfl
theorem opPW_conv {s u : TypeId} {x : Operand} : opPW P (.convert s u x) e h K = cvW (ev e x) (P.underlying u) (P.underlying s) False h K := by simp only [opPW, cvW]
theorem opPW_builtin {b : Builtin} {args : Array Operand} {ats : Array TypeId} : opPW P (.call ⟨.builtin b, args, ats⟩) e h K = bltW b (args.map (ev e)).toList ((ats[0]?).bind P.underlying) h K False := eqi rfl
theorem opPW_build {parts : Array (Nat × Operand)} : opPW P (.build t parts) e h K = bldO (okFields P t) (zeroT P t) (fieldPS P t) (parts.map fun (i, x) => (i, ev e x)).toList h K False := by
  simp only [opPW, pvW, bldW, bldO]
theorem opPW_index {x i : Operand} : opPW P (.index t x i) e h K = idsW (ev e x) (ev e i) (P.underlying t) h K False := eqi rfl
theorem opPW_field {x : Operand} {f : Nat} : opPW P (.field t x f) e h K = fldW P (ev e x) (fieldOT P t f) h K False := eqi rfl
theorem opPW_slice {x : Operand} {a b c : Option Operand} : opPW P (.slice t x a b c) e h K = slcW P (ev e x) (P.underlying t) (a.map (ev e)) (b.map (ev e)) (c.map (ev e)) h K False := eqi rfl
theorem opPW_neg {x : Operand} : opPW P (.unOp .neg t x) e h K = negW (ev e x) h K False := eqi rfl
end planeqs
end draw

/-! ### loops -/
section loops
variable {l : Option Nat} {P : Program}
/-- A frame, some slots of it as g has them. -/
def mkE (e : Env) : List Nat → (Nat → Value) → Env
  | [], _ => e
  | i :: ws, g => (mkE e ws g).set i (g i)
theorem mkE_nil {e : Env} {g : Nat → Value} : mkE e [] g = e := eqi rfl
theorem mkE_cons {e : Env} {g : Nat → Value} {i : Nat} {ws : List Nat} : mkE e (i :: ws) g = (mkE e ws g).set i (g i) := eqi rfl
def roundK (e0 : Env) (d0 : List Deferred) (ws : List Nat) (I : (Nat → Value) → Heap → Prop) (μ : (Nat → Value) → Heap → Nat) (n : Nat) (e : Env) (d : List Deferred) (h : Heap) : Prop :=
  d = d0 ∧ e = mkE e0 ws (fun i => e.getD i undef) ∧ I (fun i => e.getD i undef) h ∧ μ (fun i => e.getD i undef) h < n
theorem roundK_eq {e0 e : Env} {d0 d : List Deferred} {ws : List Nat} {I : (Nat → Value) → Heap → Prop} {μ : (Nat → Value) → Heap → Nat} {n : Nat} {h : Heap} :
    roundK e0 d0 ws I μ n e d h = (d = d0 ∧ e = mkE e0 ws (fun i => e.getD i undef) ∧ I (fun i => e.getD i undef) h ∧ μ (fun i => e.getD i undef) h < n) := eqi rfl
theorem set_getD_self (e : Env) (i : Nat) : e.set i (e.getD i undef) = e := by
  apply List.ext_getElem?
  intro j
  rw [List.getElem?_set]
  split
  · rename_i h; subst h
    split
    · rename_i h; simp [List.getD, List.getElem?_eq_getElem h]
    · rename_i h; simp [List.getElem?_eq_none (Nat.le_of_not_lt h)]
  · rfl
theorem mkE_self (e : Env) : ∀ ws, mkE e ws (fun i => e.getD i undef) = e
  | [] => rfl
  | i :: ws => by rw [mkE, mkE_self e ws, set_getD_self]
theorem WP_loopI {c : Code} {k : Cont} {e : Env} {d : List Deferred} {h : Heap} (ws : List Nat) (I : (Nat → Value) → Heap → Prop) (μ : (Nat → Value) → Heap → Nat)
    (h0 : I (fun i => e.getD i undef) h)
    (round : ∀ g h', I g h' → exec l P c (thenK (roundK e d ws I μ (μ g h')) k) (mkE e ws g) d h') : WP l P (.loop c) k e d h := by
  intro w hw
  refine wpIn_loop (fun a w' => (a.defers = d ∧ a.tmps.toList = mkE e ws (fun i => a.tmps.toList.getD i undef) ∧ I (fun i => a.tmps.toList.getD i undef) w'.heap) ∧ Rest w w')
    (fun a w' => μ (fun i => a.tmps.toList.getD i undef) w'.heap) ⟨⟨rfl, by rw [mkE_self], by subst hw; simpa using h0⟩, Rest.refl w⟩ ?_
  rintro a w' ⟨⟨hd, he', hI⟩, hr⟩
  have h1 := round _ w'.heap hI
  rw [← he', ← hd] at h1
  have h1 := exec_sound _ _ _ _ _ h1 w' rfl
  rw [toList_act] at h1
  refine wpIn_mono h1 ?_
  rintro x a' w'' ⟨hq, hr'⟩
  cases x with
  | normal =>
    obtain ⟨q1, q2, q3, q4⟩ := hq
    exact ⟨⟨⟨q1.trans hd, q2, q3⟩, hr.trans hr'⟩, q4⟩
  | _ => exact ⟨hq, hr.trans hr'⟩
end loops

/-! ### what follows may be weakened; where ways meet again -/
section mono
variable {l : Option Nat} {P : Program} {ty : TypeId} {e : Env} {h : Heap} {K K' : Value → Heap → Prop} {F F' : Prop}
theorem loadW_mono {t : TypeId} {v : Value} (hk : ∀ v h, K v h → K' v h) (H : loadW P t v h K) : loadW P t v h K' := by
  unfold loadW onC onV at *
  repeat' split at H
  all_goals first | exact H.elim | (simp_all; done) | exact hk _ _ H | exact ⟨H.1, hk _ _ H.2⟩ | exact H.2.elim
theorem storeW_mono {t : TypeId} {p v : Value} (hk : ∀ v h, K v h → K' v h) (H : storeW P t p v h K) : storeW P t p v h K' := by
  unfold storeW stK at *
  split at H
  · refine ⟨H.1, H.2.1, H.2.2.1, ?_⟩
    have H := H.2.2.2
    split at H
    · exact ⟨H.1, hk _ _ H.2⟩
    · exact H.elim
  · exact H.elim
theorem idxW_mono {t : TypeId} {x i : Value} (hk : ∀ v h, K v h → K' v h) (H : idxW P t x i h K) : idxW P t x i h K' := by
  unfold idxW at *
  split at H
  · split at H
    · exact ⟨H.1, H.2.1, H.2.2.1, hk _ _ H.2.2.2⟩
    · exact ⟨H.1, H.2.1, hk _ _ H.2.2⟩
    · exact H.elim
  · exact H.elim
theorem intW_mono {op : BinOp} {k : IntKind} {a b : Int} (hk : ∀ v h, K v h → K' v h) (H : intW op k a b h K) : intW op k a b h K' := by
  cases op <;> simp only [intW] at * <;> first | exact hk _ _ H | exact ⟨H.1, hk _ _ H.2⟩ | exact ⟨H.1, H.2.1, hk _ _ H.2.2⟩ | exact ⟨H.1, H.2.1, H.2.2.1, hk _ _ H.2.2.2⟩
theorem binW_mono {op : BinOp} {x y : Value} (hk : ∀ v h, K v h → K' v h) (hF : F → F') (H : binW op x y h K F) : binW op x y h K' F' := by
  unfold binW strW at *
  split at H
  · split at H
    · exact intW_mono hk H
    · exact intW_mono hk H
    · exact ⟨H.1, intW_mono hk H.2⟩
  · split at H
    · exact ⟨H.1, hk _ _ H.2⟩
    · exact hk _ _ H
    · exact hk _ _ H
    · exact hF H
  · exact hF H
theorem onV_mono {o : Option Value} (hk : ∀ v h, K v h → K' v h) (H : onV o K h) : onV o K' h := by
  unfold onV at *; split at H <;> first | exact hk _ _ H | exact H.elim
theorem onC_mono {o : Option (List Value)} (hk : ∀ v h, K v h → K' v h) (H : onC o K h) : onC o K' h := by
  unfold onC at *; split at H <;> first | exact hk _ _ H | exact H.elim
theorem pvW_mono {o : Op} (hk : ∀ v h, K v h → K' v h) (hF : F → F') (H : pvW P o e h K F) : pvW P o e h K' F' := by
  unfold pvW at *
  split at H
  · unfold bltW at *
    split at H <;> first | exact hk _ _ H | exact hF H
  · unfold bldW at *
    split at H
    · exact onC_mono hk H
    · exact hF H
  · unfold slcW at *
    split at H
    · split at H
      · exact ⟨H.1, H.2.1, H.2.2.1, hk _ _ H.2.2.2⟩
      · exact H.elim
    · split at H
      · exact ⟨H.1, H.2.1, H.2.2.1, H.2.2.2.1, H.2.2.2.2.1, hk _ _ H.2.2.2.2.2⟩
      · exact H.elim
    · split at H
      · exact ⟨H.1, H.2.1, H.2.2.1, H.2.2.2.1, H.2.2.2.2.1, hk _ _ H.2.2.2.2.2⟩
      · exact H.elim
    · exact hF H
  · unfold idsW at *
    split at H
    · exact ⟨H.1, hk _ _ H.2⟩
    · exact hF H
  · unfold fldW partW at *
    split at H
    · split at H
      · exact ⟨H.1, hk _ _ H.2⟩
      · exact onV_mono hk H
      · exact H.elim
    · exact hF H
  · unfold negW at *
    split at H
    · exact ⟨H.1, hk _ _ H.2⟩
    · exact hF H
  · exact hF H
theorem callV_mono {v : Value} {args : Array Value} (hk : ∀ v h, K v h → K' v h) (hF : F → F') (H : callV P v args h K F) : callV P v args h K' F' := by
  unfold callV at *
  split at H
  · exact H.mono hk
  · exact hF H
theorem alcW_mono {o : Op} (hk : ∀ v h, K v h → K' v h) (H : alcW P o ty e h K) : alcW P o ty e h K' := by
  unfold alcW at *
  split at H
  · unfold bslW at *
    split at H
    · split at H
      · refine ⟨H.1, H.2.1, H.2.2.1, ?_⟩
        have H := H.2.2.2
        rw [onSome_iff] at H ⊢
        obtain ⟨x, h1, h2⟩ := H
        exact ⟨x, h1, hk _ _ h2⟩
      · exact opSem_mono hk H
    · exact opSem_mono hk H
  · unfold mksW at *
    split at H
    · split at H
      · exact ⟨H.1, H.2.1, H.2.2.1, H.2.2.2.1, H.2.2.2.2.1, H.2.2.2.2.2.1, hk _ _ H.2.2.2.2.2.2⟩
      · exact opSem_mono hk H
    · exact opSem_mono hk H
  · exact hk _ _ H
  · exact opSem_mono hk H
theorem opW_mono {o : Op} (hk : ∀ v h, K v h → K' v h) (H : opW P o ty e h K) : opW P o ty e h K' := by
  have oth : ∀ o : Op, opW P o ty e h K = pvW P o e h K (alcW P o ty e h K) → opW P o ty e h K' = pvW P o e h K' (alcW P o ty e h K') → opW P o ty e h K → opW P o ty e h K' := fun o h1 h2 H => by rw [h2]; rw [h1] at H; exact pvW_mono hk (alcW_mono hk) H
  cases o
  case move x => exact hk _ _ H
  case assign x => exact hk _ _ H
  case pick c a b =>
    simp only [opW] at *
    split at H <;> first | exact hk _ _ H | exact H.elim
  case alloc t =>
    simp only [opW, onSome_iff] at *
    obtain ⟨z, h1, h2⟩ := H
    exact ⟨z, h1, hk _ _ h2⟩
  case box t x => exact hk _ _ H
  case load t x => exact loadW_mono hk H
  case store t a x => exact storeW_mono hk H
  case fieldAddr s x f =>
    simp only [opW] at *
    split at H
    · refine ⟨H.1, ?_⟩
      have H := H.2
      rw [onSome_iff] at H ⊢
      obtain ⟨z, h1, h2⟩ := H
      exact ⟨z, h1, hk _ _ h2⟩
    · exact H.elim
  case indexAddr t x i => exact idxW_mono hk H
  case nilCheck x =>
    simp only [opW] at *
    split at H <;> first | exact hk _ _ H | exact opSem_mono hk H
  case binOp op t x y yt => exact binW_mono hk (opSem_mono hk) H
  case unOp op t x =>
    cases op
    case not =>
      simp only [opW] at *
      split at H <;> first | exact hk _ _ H | exact H.elim
    all_goals exact oth _ rfl rfl H
  case convert s d x =>
    simp only [opW] at *
    split at H <;> first | exact ⟨H.1, hk _ _ H.2⟩ | exact opSem_mono hk H
  case extract x i =>
    simp only [opW] at *
    split at H <;> first | exact onV_mono hk H | exact H.elim
  case makeFunc fn first caps => exact hk _ _ H
  case call c =>
    obtain ⟨cal, args, ats⟩ := c
    cases cal with
    | value f => exact callV_mono hk (opSem_mono hk) H
    | _ => exact oth _ rfl rfl H
  all_goals exact oth _ rfl rfl H
theorem boolW_mono {v : Value} {A A' : Bool → Prop} {U U' : Prop} (hA : ∀ b, A b → A' b) (hU : U → U') (H : boolW v A U) : boolW v A' U' := by
  unfold boolW at *
  split at H
  · exact ⟨fun h => hA _ (H.1 h), fun h => hA _ (H.2 h)⟩
  · exact hU H
  · exact H.elim
theorem execR_mono {all : List Oper} {k k' : Cont} (hk : ∀ x e d h, k x e d h → k' x e d h) : ∀ (ops : List Oper) (e : Env) (d : List Deferred) (h : Heap), execR P all ops k e d h → execR P all ops k' e d h
  | [], e, d, h, H => hk _ _ _ _ H
  | o :: rest, e, d, h, H => by
    unfold execR guardW at *
    split at H
    · exact opW_mono (fun v h => execR_mono hk rest _ _ _) H
    · split at H
      · exact execR_mono hk rest _ _ _ H
      · refine boolW_mono (fun b hb => ?_) (execR_mono hk rest _ _ _) H
        split at hb
        · rename_i hb'; rw [if_pos hb']; exact opW_mono (fun v h => execR_mono hk rest _ _ _) hb
        · rename_i hb'; rw [if_neg hb']; exact execR_mono hk rest _ _ _ hb
theorem thenK_mono {n n' : Env → List Deferred → Heap → Prop} {k k' : Cont} (hn : ∀ e d h, n e d h → n' e d h) (hk : ∀ x e d h, k x e d h → k' x e d h) : ∀ x e d h, thenK n k x e d h → thenK n' k' x e d h := by
  intro x e d h H
  cases x <;> first | exact hn _ _ _ H | exact hk _ _ _ _ H
theorem exec_mono : ∀ (c : Code) {k k' : Cont} (_ : ∀ x e d h, k x e d h → k' x e d h) (e : Env) (d : List Deferred) (h : Heap), exec l P c k e d h → exec l P c k' e d h
  | .skip, k, k', hk, e, d, h, H => hk _ _ _ _ H
  | .seq a b, k, k', hk, e, d, h, H => exec_mono a (thenK_mono (fun e d h => exec_mono b hk e d h) hk) e d h H
  | .cond c x y, k, k', hk, e, d, h, H => by
    unfold exec condW at *
    split at H
    · refine boolW_mono (fun b hb => ?_) id H
      cases b
      · exact exec_mono y hk _ _ _ hb
      · exact exec_mono x hk _ _ _ hb
    · exact exec_mono x hk _ _ _ H
    · exact exec_mono y hk _ _ _ H
    · exact H
  | .block i c, k, k', hk, e, d, h, H => by
    refine exec_mono c (k := blockK i k) (k' := blockK i k') ?_ e d h H
    intro x e d h hb
    cases x with
    | exit j =>
      simp only [blockK] at *
      split at hb
      · rename_i hj; rw [if_pos hj]; exact hk _ _ _ _ hb
      · rename_i hj; rw [if_neg hj]; exact hk _ _ _ _ hb
    | _ => exact hk _ _ _ _ hb
  | .region id ops false, k, k', hk, e, d, h, H => execR_mono hk _ _ _ _ H
  | .region id ops true, k, k', hk, e, d, h, H => WP_mono hk H
  | .exit i, k, k', hk, e, d, h, H => hk _ _ _ _ H
  | .ret, k, k', hk, e, d, h, H => hk _ _ _ _ H
  | .label i, k, k', hk, e, d, h, H => hk _ _ _ _ H
  | .goto i, k, k', hk, e, d, h, H => hk _ _ _ _ H
  | .loop c, k, k', hk, e, d, h, H => WP_mono hk H
  | .rangeFunc f ps a b, k, k', hk, e, d, h, H => WP_mono hk H
  | .scope c, k, k', hk, e, d, h, H => WP_mono hk H
  | .refuse s, k, k', hk, e, d, h, H => WP_mono hk H
/-- What is known where the ways meet: the frame but for some slots, and what I says of these and the heap. -/
def midK (e0 : Env) (d0 : List Deferred) (ws : List Nat) (I : (Nat → Value) → Heap → Prop) (e : Env) (d : List Deferred) (h : Heap) : Prop :=
  d = d0 ∧ e = mkE e0 ws (fun i => e.getD i undef) ∧ I (fun i => e.getD i undef) h
theorem midK_mk {e0 e : Env} {d0 : List Deferred} {ws : List Nat} {I : (Nat → Value) → Heap → Prop} {h : Heap}
    (h1 : e = mkE e0 ws (fun i => e.getD i undef)) (h2 : I (fun i => e.getD i undef) h) : midK e0 d0 ws I e d0 h := ⟨rfl, h1, h2⟩
/-- A test behind which the ways meet again. -/
theorem cd_cut {v : Value} {s : Tmp} {x y : Code} {n : Env → List Deferred → Heap → Prop} {k : Cont} {d : List Deferred} (ws : List Nat) (I : (Nat → Value) → Heap → Prop)
    (H : cd l P v s x y (thenK (midK e d ws I) k) e d h) (Hn : ∀ g h', I g h' → n (mkE e ws g) d h') : cd l P v s x y (thenK n k) e d h := by
  unfold cd at *
  have hm : ∀ x e' d' h', thenK (midK e d ws I) k x e' d' h' → thenK n k x e' d' h' := thenK_mono (fun e' d' h' hmid => by
    obtain ⟨h1, h2, h3⟩ := hmid
    subst h1
    rw [h2]
    exact Hn _ _ h3) (fun _ _ _ _ h => h)
  refine boolW_mono (fun b hb => ?_) id H
  cases b
  · exact exec_mono y hm _ _ _ hb
  · exact exec_mono x hm _ _ _ hb
end mono

/-! ### rows of cells -/
section rows
/-- From the address on lie these cells. -/
def Row (h : Heap) (a : Option Addr) (cs : List Value) : Prop :=
  cs = [] ∨ ∃ g off cur ct fr, a = some ⟨g, off, none⟩ ∧ h[g]? = some (.cells cur ct fr) ∧ off + cs.length ≤ cur.size ∧ (cur.toList.drop off).take cs.length = cs
theorem Row.ext {h h' : Heap} {a : Option Addr} {cs : List Value} (H : Row h a cs) (x : Ext h h') : Row h' a cs := by
  rcases H with H | ⟨g, off, cur, ct, fr, h1, h2, h3, h4⟩
  · exact .inl H
  · exact .inr ⟨g, off, cur, ct, fr, h1, x.get h2, h3, h4⟩
theorem Row.push {h : Heap} {a : Option Addr} {cs : List Value} (H : Row h a cs) (o : Obj) : Row (h.push o) a cs := H.ext ((Ext.refl h).push o)
theorem Row.isSome {h : Heap} {a : Option Addr} {cs : List Value} (H : Row h a cs) (hl : 0 < cs.length) : a.isSome = true := by
  rcases H with H | ⟨g, off, cur, ct, fr, h1, _⟩
  · simp [H] at hl
  · simp [h1]
theorem Row.cell {h : Heap} {a : Option Addr} {cs : List Value} (H : Row h a cs) {j : Nat} (hj : j < cs.length) : cellH h (eltP a j) = some cs[j] := by
  rcases H with H | ⟨g, off, cur, ct, fr, h1, h2, h3, h4⟩
  · simp [H] at hj
  · subst h1
    rw [eltP_some, cellH_eq, h2]
    have : cur[off + j]? = cs[j]? := by
      rw [← h4, List.getElem?_take, if_pos hj, List.getElem?_drop]
      simp
    simp only [celO, this, List.getElem?_eq_getElem hj]
theorem Row.cells {h : Heap} {a : Option Addr} {cs : List Value} (H : Row h a cs) {j n : Nat} (hj : j + n ≤ cs.length) (hn : 0 < n) : cellsH h (eltP a j) n = some ((cs.drop j).take n) := by
  rcases H with H | ⟨g, off, cur, ct, fr, h1, h2, h3, h4⟩
  · simp [H] at hj; omega
  · subst h1
    rw [eltP_some, cellsH_eq, h2]
    simp only [cesO]
    rw [if_pos (by omega)]
    congr 1
    rw [← h4, List.drop_take, List.drop_drop, List.take_take]
    congr 1
    omega
theorem Row.sub {h : Heap} {a : Option Addr} {cs : List Value} (H : Row h a cs) (j n : Nat) (hj : j + n ≤ cs.length) : Row h (eltP a j) ((cs.drop j).take n) := by
  rcases H with H | ⟨g, off, cur, ct, fr, h1, h2, h3, h4⟩
  · left; simp [H]
  · subst h1
    right
    refine ⟨g, off + j, cur, ct, fr, eltP_some, h2, ?_, ?_⟩
    · simp; omega
    · have hl : ((cs.drop j).take n).length = n := by simp; omega
      rw [hl, ← h4, List.drop_take, List.drop_drop, List.take_take]
      congr 1
      omega
theorem Row.block {h : Heap} {g : Nat} {c : List Value} {ct : TypeId} {fr : Nat × Nat} (hb : h[g]? = some (.cells c.toArray ct fr)) : Row h (some ⟨g, 0, none⟩) c :=
  .inr ⟨g, 0, c.toArray, ct, fr, rfl, hb, by simp, by simp⟩
theorem Row.take {h : Heap} {a : Option Addr} {cs : List Value} (H : Row h a cs) (n : Nat) : Row h a (cs.take n) := by
  rcases H with H | ⟨g, off, cur, ct, fr, h1, h2, h3, h4⟩
  · left; simp [H]
  · right
    refine ⟨g, off, cur, ct, fr, h1, h2, by simp; omega, ?_⟩
    conv => rhs; rw [← h4]
    rw [List.take_take]
    congr 1
    simp

def ints (xs : List Int) : List Value := xs.map (.int .i64)
theorem ints_length (xs : List Int) : (ints xs).length = xs.length := by simp [ints]
theorem ints_get {xs : List Int} {j : Nat} (hj : j < (ints xs).length) : (ints xs)[j] = .int .i64 (xs.getD j 0) := by
  have hj' : j < xs.length := by simpa [ints] using hj
  simp [ints, List.getD, List.getElem?_eq_getElem hj']
/-- A slice of integers. -/
structure IntsV (h : Heap) (a : Option Addr) (len : Nat) (xs : List Int) : Prop where
  len : len = xs.length
  row : Row h a (ints xs)
theorem IntsV.ext {h h' : Heap} {a : Option Addr} {n : Nat} {xs : List Int} (H : IntsV h a n xs) (x : Ext h h') : IntsV h' a n xs := ⟨H.len, H.row.ext x⟩
theorem IntsV.push {h : Heap} {a : Option Addr} {n : Nat} {xs : List Int} (H : IntsV h a n xs) (o : Obj) : IntsV (h.push o) a n xs := ⟨H.len, H.row.push o⟩
theorem IntsV.cell {h : Heap} {a : Option Addr} {n : Nat} {xs : List Int} (H : IntsV h a n xs) {j : Nat} (hj : j < xs.length) : cellH h (eltP a j) = some (.int .i64 (xs.getD j 0)) := by
  rw [H.row.cell (by rw [ints_length]; exact hj), ints_get]
theorem IntsV.isSome {h : Heap} {a : Option Addr} {n : Nat} {xs : List Int} (H : IntsV h a n xs) (hl : 0 < xs.length) : a.isSome = true := H.row.isSome (by rw [ints_length]; exact hl)
theorem IntsV.nil (h : Heap) : IntsV h none 0 [] := ⟨rfl, .inl rfl⟩
theorem IntsV.block {h : Heap} {g : Nat} {xs : List Int} {ct : TypeId} {fr : Nat × Nat} (hb : h[g]? = some (.cells (ints xs).toArray ct fr)) : IntsV h (some ⟨g, 0, none⟩) xs.length xs := ⟨rfl, Row.block hb⟩
theorem Ext.of_push {h h' : Heap} {o : Obj} (x : Ext (h.push o) h') : Ext h h' := ((Ext.refl h).push o).trans x
theorem Ext.lt {h h' : Heap} (x : Ext h h') {b : Nat} (hb : b < h.size) : b < h'.size := Nat.lt_of_lt_of_le hb x.size
theorem inK_i64 {n : Int} : InK .i64 n = (-9223372036854775808 ≤ n ∧ n ≤ 9223372036854775807) := by
  simp [InK, IntKind.min, IntKind.max, IntKind.signed, IntKind.bits]
theorem inK_u8 {n : Int} : InK .u8 n = (0 ≤ n ∧ n ≤ 255) := by simp [InK, IntKind.min, IntKind.max, IntKind.signed, IntKind.bits]
theorem inK_i32 {n : Int} : InK .i32 n = (-2147483648 ≤ n ∧ n ≤ 2147483647) := by simp [InK, IntKind.min, IntKind.max, IntKind.signed, IntKind.bits]
/-- One block has turned. -/
structure Upd (h h' : Heap) (b : Nat) : Prop where
  size : h'.size = h.size
  old : ∀ b', b' ≠ b → h'[b']? = h[b']?
theorem Upd.get {h h' : Heap} {b b' : Nat} {o : Obj} (u : Upd h h' b) (hb : h[b']? = some o) (hne : b' ≠ b) : h'[b']? = some o := (u.old b' hne).trans hb
theorem Upd.ext {h0 h h' : Heap} {b : Nat} (u : Upd h h' b) (x : Ext h0 h) (hb : h0.size ≤ b) : Ext h0 h' := ⟨by rw [u.size]; exact x.size, fun i hi => (u.old i (by omega)).trans (x.old i hi)⟩
theorem Upd.updH {h : Heap} {b : Nat} {c : List Value} {ct : TypeId} : Upd h (updH h b c ct) b := ⟨upd_size, fun b' hb => by unfold Eng.updH; rw [Array.getElem?_setIfInBounds_ne (Ne.symm hb)]⟩
theorem IntsV.upd {h h' : Heap} {b : Nat} {a : Option Addr} {n : Nat} {xs : List Int} (H : IntsV h a n xs) (u : Upd h h' b) (hne : ∀ p, a = some p → p.block ≠ b) : IntsV h' a n xs := by
  refine ⟨H.len, ?_⟩
  rcases H.row with h0 | ⟨g, off, cur, ct, fr, h1, h2, h3, h4⟩
  · exact .inl h0
  · exact .inr ⟨g, off, cur, ct, fr, h1, u.get h2 (by have := hne _ h1; exact this), h3, h4⟩
theorem lt_of_get {h : Heap} {b : Nat} {o : Obj} (hb : h[b]? = some o) : b < h.size := (Array.getElem?_eq_some_iff.1 hb).1
theorem splice_one (c : List Value) (i : Nat) (v : Value) (hi : i < c.length) : splice c i [v] = c.set i v := by
  unfold splice
  apply List.ext_getElem?
  intro j
  simp only [List.append_assoc, List.getElem?_append, List.length_take, List.getElem?_take, List.getElem?_set, List.cons_append, List.nil_append, List.length_cons, List.length_nil]
  have : min i c.length = i := by omega
  rw [this]
  by_cases h1 : j < i
  · simp [h1, show ¬ i = j by omega]
  · rw [if_neg h1]
    by_cases h2 : i = j
    · subst h2; simp [hi]
    · rw [if_neg h2]
      have : j - i = (j - (i + 1)) + 1 := by omega
      rw [this, List.getElem?_cons_succ, List.getElem?_drop]
      congr 1; omega
theorem ints_set (xs : List Int) (i : Nat) (v : Int) : (ints xs).set i (.int .i64 v) = ints (xs.set i v) := by simp [ints, List.map_set]
theorem stK_abs {c : List Value} {ct : TypeId} {b off : Nat} {vs : List Value} {h : Heap} {K : Value → Heap → Prop} (hb : h[b]? = some (.cells c.toArray ct)) (hl : off + vs.length ≤ c.length)
    (H : ∀ h', h'[b]? = some (.cells (splice c off vs).toArray ct) → Upd h h' b → K undef h') : stK (some (c, ct)) b off vs h K := by
  rw [stK_some]
  exact ⟨hl, H _ (upd_same (lt_of_get hb)) Upd.updH⟩
theorem stK_int {xs : List Int} {ct : TypeId} {b i : Nat} {v : Int} {h : Heap} {K : Value → Heap → Prop} (hb : h[b]? = some (.cells (ints xs).toArray ct)) (hl : i < xs.length)
    (H : ∀ h', h'[b]? = some (.cells (ints (xs.set i v)).toArray ct) → Upd h h' b → K undef h') : stK (some (ints xs, ct)) b i [.int .i64 v] h K := by
  refine stK_abs hb (by simp [ints_length]; omega) ?_
  rw [splice_one _ _ _ (by rw [ints_length]; exact hl), ints_set]
  exact H
theorem ints_getElem? (xs : List Int) (i : Nat) (hi : i < xs.length) : (ints xs)[i]? = some (.int .i64 (xs.getD i 0)) := by
  simp [ints, List.getD, List.getElem?_eq_getElem hi]
theorem cQ_eq {P : Program} {f : FuncId} {args : Array Value} {h : Heap} {K : Value → Heap → Prop} (r : Value) (c : CallsH P f args h (fun v' h'' => v' = r ∧ h'' = h)) (H : K r h) : cQ P EqH f args h K :=
  ⟨r, fun h' hh => by rw [show h' = h from hh]; exact c.mono fun _ _ q => q, H⟩
theorem cQ_ext {P : Program} {f : FuncId} {args : Array Value} {h : Heap} {K : Value → Heap → Prop} (r : Value) (c : ∀ h', Ext h h' → CallsH P f args h' (fun v' h'' => v' = r ∧ Ext h' h'')) (H : K r h) : cQ P Ext f args h K := ⟨r, c, H⟩
theorem hvK_mk {k : Cont} {e : Env} {d : List Deferred} {h : Heap} (H : ∀ h', Ext h h' → k .normal e d h') : hvK Ext k e d h := H
end rows

theorem roundK_mk {e0 e : Env} {d0 : List Deferred} {ws : List Nat} {I : (Nat → Value) → Heap → Prop} {μ : (Nat → Value) → Heap → Nat} {n : Nat} {h : Heap}
    (h1 : e = mkE e0 ws (fun i => e.getD i undef)) (h2 : I (fun i => e.getD i undef) h) (h3 : μ (fun i => e.getD i undef) h < n) : roundK e0 d0 ws I μ n e d0 h := ⟨rfl, h1, h2, h3⟩
attribute [irreducible] exec execR execD opW opQW opSem opQS loadW storeW idxW binW bltW pvW alcW setK setD gd gdo gq gqo stq sts cd WP CallsH CallsW cQ callV callQ thenK blockK retK roundK midK hvK finW resA resK onV onC stK pkW alW faW ixW ncW ntW cvW exW bldO bslO bslK bslW idsW fldW partW slcW slcS slcV mksW mksO negW guardW condW boolW
/-! ### the equations in bundles -/
set_option linter.defProp false
def coreS := (And.intro (And.intro (And.intro (And.intro (And.intro (And.intro (And.intro @List.getElem?_toArray.{0} (And.intro @exec_skip @exec_seq)) (And.intro (And.intro @exec_cond @exec_cond_t) (And.intro @exec_cond_f @exec_block))) (And.intro (And.intro @exec_region (And.intro @exec_draw @exec_exit)) (And.intro (And.intro @exec_ret @exec_label) (And.intro @exec_loop @exec_rangeFunc)))) (And.intro (And.intro (And.intro @execR_nil (And.intro @execR_cons @execR_guard)) (And.intro (And.intro @gdo_some @gslot_zero) (And.intro @gslot_succ @gd_tt))) (And.intro (And.intro @gd_ff (And.intro @gd_tf @gd_ft)) (And.intro (And.intro @gd_undef @gd_dec_t) (And.intro @gd_dec_f @gd_ndec_t))))) (And.intro (And.intro (And.intro (And.intro @gd_ndec_f (And.intro @cd_true @cd_false)) (And.intro (And.intro @cd_dec @cd_ndec) (And.intro @setK_eq @putE_some))) (And.intro (And.intro @putE_none (And.intro @ev_tmp @ev_const)) (And.intro (And.intro @ev_global @ev_func) (And.intro @List.getD_cons_zero.{0} @List.getD_cons_succ.{0})))) (And.intro (And.intro (And.intro @List.set_cons_zero.{0} (And.intro @List.set_cons_succ.{0} @thenK_normal)) (And.intro (And.intro @thenK_ret @thenK_exit) (And.intro @blockK_normal @blockK_ret))) (And.intro (And.intro @blockK_exit (And.intro @retK_normal @retK_ret)) (And.intro (And.intro @finW_nil @resA_one) (And.intro @resA_nil @resA_two)))))) (And.intro (And.intro (And.intro (And.intro (And.intro @resA_tmp (And.intro @resA_cell @resK_eq)) (And.intro (And.intro @List.nil_append.{0} @List.cons_append.{0}) (And.intro @onV_some @onC_some))) (And.intro (And.intro @opW_move (And.intro @opW_assign @opW_pick)) (And.intro (And.intro @pkW_true @pkW_false) (And.intro @opW_alloc @alW_some)))) (And.intro (And.intro (And.intro @opW_box (And.intro @opW_load @opW_store)) (And.intro (And.intro @opW_fieldAddr @faW_at) (And.intro @opW_indexAddr @idxW_eq))) (And.intro (And.intro @ixW_slice (And.intro @ixW_array @eltP_some)) (And.intro (And.intro @opW_nilCheck @ncW_at) (And.intro @opW_binOp @bin_add))))) (And.intro (And.intro (And.intro (And.intro @bin_sub (And.intro @bin_mul @bin_quo)) (And.intro (And.intro @bin_rem @bin_eql) (And.intro @bin_neq @bin_lss))) (And.intro (And.intro @bin_leq (And.intro @bin_gtr @bin_geq)) (And.intro (And.intro @bin_shl @bin_shr) (And.intro @bin_and @bin_or)))) (And.intro (And.intro (And.intro @bin_xor (And.intro @bin_andNot @bin_sadd)) (And.intro (And.intro @bin_seql @bin_sneq) (And.intro @bin_agg @bin_bool))) (And.intro (And.intro @opW_not (And.intro @ntW_bool @opW_neg)) (And.intro (And.intro @negW_int @opW_conv) (And.intro @cvW_int @cvW_str))))))) (And.intro (And.intro (And.intro (And.intro (And.intro (And.intro @cvW_slice (And.intro @opW_extract @exW_tuple)) (And.intro (And.intro @opW_makeFunc @opW_call) (And.intro @callV_func @opW_builtin))) (And.intro (And.intro @blt_len_slice (And.intro @blt_len_str @blt_min)) (And.intro (And.intro @blt_max @blt_append) (And.intro @blt_copy @blt_clear)))) (And.intro (And.intro (And.intro @blt_delete (And.intro @blt_len_map @opW_build)) (And.intro (And.intro @bldO_some @fillL_nil) (And.intro @fillL_cons @fillS_some))) (And.intro (And.intro @opW_buildSlice (And.intro @bslW_slice @bslO_some)) (And.intro (And.intro @bslK_some @opW_index) (And.intro @idsW_str @opW_field))))) (And.intro (And.intro (And.intro (And.intro @fldW_at (And.intro @partW_one @partW_agg)) (And.intro (And.intro @opW_slice @slcW_str) (And.intro @slcW_two @slcW_three))) (And.intro (And.intro @slcW_arr (And.intro @slcS_some @slcV_some)) (And.intro (And.intro @bnd_none @bnd_int) (And.intro @opW_makeSlice @mksW_int)))) (And.intro (And.intro (And.intro @mksO_some (And.intro @opW_makeMap @opW_lookup)) (And.intro (And.intro @opW_mapUpdate @opW_range) (And.intro @opW_next @cellH_eq))) (And.intro (And.intro @cellsH_eq (And.intro @rowH_eq @celO_cells)) (And.intro (And.intro @cesO_cells @rowO_cells) (And.intro @push_get @push_size)))))) (And.intro (And.intro (And.intro (And.intro (And.intro @upd_push_new (And.intro @loadW_one @loadW_agg)) (And.intro (And.intro @storeW_at @List.all_cons.{0}) (And.intro @List.all_nil.{0} @Bool.and_true))) (And.intro (And.intro @Bool.and_self (And.intro @List.getElem?_cons_zero.{0} @List.getElem?_cons_succ.{0})) (And.intro (And.intro @List.drop_zero.{0} @List.drop_succ_cons.{0}) (And.intro @List.take_succ_cons.{0} @List.take_zero.{0})))) (And.intro (And.intro (And.intro @List.length_cons.{0} (And.intro @List.length_nil.{0} @List.size_toArray.{0})) (And.intro (And.intro @List.toList_toArray.{0} @Nat.zero_lt_one) (And.intro @true_implies @false_implies))) (And.intro (And.intro @not_true_eq_false (And.intro @not_false_eq_true @Nat.zero_add)) (And.intro (And.intro @Nat.add_zero @Nat.mul_one) (And.intro @Nat.le_refl @Int.toNat_natCast))))) (And.intro (And.intro (And.intro (And.intro @Int.toNat_zero (And.intro @Int.toNat_one @if_true.{1})) (And.intro (And.intro @if_false.{1} @and_self) (And.intro @true_and @and_true))) (And.intro (And.intro @Bool.not_not (And.intro @Bool.not_true @Bool.not_false)) (And.intro (And.intro @Bool.false_eq_true @Option.map_some.{0, 0}) (And.intro @Option.map_none.{0, 0} @Option.bind_some.{0, 0})))) (And.intro (And.intro (And.intro @List.map_toArray.{0, 0} (And.intro @List.map_cons.{0, 0} @List.map_nil.{0, 0})) (And.intro (And.intro @List.append_toArray.{0} @List.append_nil.{0}) (And.intro @List.replicate_succ.{0} @List.replicate_zero.{0}))) (And.intro (And.intro (And.intro @List.flatten_cons.{0} @List.flatten_nil.{0}) (And.intro @Nat.left_eq_add @Nat.add_eq_zero_iff)) (And.intro (And.intro @Nat.succ_ne_self @Nat.add_eq_left) (And.intro @mkE_nil @mkE_cons))))))))
def drawS0 := (And.intro (And.intro (And.intro (And.intro (And.intro @execD_nil (And.intro @execD_quiet @execD_alone)) (And.intro (And.intro @stq_plain @stq_guard) (And.intro @sts_plain @gqo_some))) (And.intro (And.intro @gq_tt (And.intro @gq_ff @gq_tf)) (And.intro (And.intro @gq_ft @gq_undef) (And.intro @gq_dec_t @gq_dec_f)))) (And.intro (And.intro (And.intro @gq_ndec_t (And.intro @gq_ndec_f @setD_eq)) (And.intro (And.intro @hvK_eq @opQW_move) (And.intro @opQW_assign @opQW_pick))) (And.intro (And.intro (And.intro @opQW_load @opQW_fieldAddr) (And.intro @opQW_indexAddr @opQW_nilCheck)) (And.intro (And.intro @opQW_binOp @opQW_not) (And.intro @opQW_neg @opQW_conv))))) (And.intro (And.intro (And.intro (And.intro @opQW_extract (And.intro @opQW_makeFunc @opQW_call)) (And.intro (And.intro @callQ_func @opQW_builtin) (And.intro @opQW_build @opQW_index))) (And.intro (And.intro @opQW_field (And.intro @opQW_slice @opQW_lookup)) (And.intro (And.intro @opQW_buildSlice @execD_pure) (And.intro @stp_plain @opPW_move)))) (And.intro (And.intro (And.intro @opPW_assign (And.intro @opPW_pick @opPW_fieldAddr)) (And.intro (And.intro @opPW_indexAddr @opPW_nilCheck) (And.intro @opPW_binOp @opPW_not))) (And.intro (And.intro (And.intro @opPW_extract @opPW_makeFunc) (And.intro @opPW_builtin @opPW_build)) (And.intro (And.intro @opPW_index @opPW_field) (And.intro @opPW_slice @opPW_neg))))))
def drawS := And.intro drawS0 @opPW_conv
end Go.Eng
