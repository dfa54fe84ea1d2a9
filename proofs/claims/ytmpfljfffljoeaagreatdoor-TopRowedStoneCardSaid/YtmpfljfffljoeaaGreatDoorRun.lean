/- The evaluator: a run over virtual heaps that the kernel can carry out. No condition. -/
import Derived.Test.YtmpfljfffljoeaaGreatDoorEng
import Derived.Lib.Bytealg
set_option linter.unusedVariables false
set_option linter.unusedSimpArgs false
namespace Go.Run
open Go Go.Eng

/-- A choice, cheap for the kernel. -/
@[reducible] noncomputable def ite {α : Type} (b : Bool) (x y : α) : α := Bool.rec (motive := fun _ => α) y x b
@[reducible] noncomputable def bnd {α β : Type} (o : Option α) (f : α → Option β) : Option β := Option.rec (motive := fun _ => Option β) none f o
inductive En (α : Type) where
  | leaf (v : α)
  | node (l r : En α)
inductive Pa where
  | e
  | o (p : Pa)
  | i (p : Pa)
  deriving DecidableEq
/-- The way to a place, in a tree of depth d. -/
noncomputable def Pa.of (d : Nat) : Nat → Pa :=
  Nat.rec (motive := fun _ => Nat → Pa) (fun _ => .e) (fun _ ih n => ite (Nat.beq (Nat.mod n 2) 0) (.o (ih (Nat.div n 2))) (.i (ih (Nat.div n 2)))) d
noncomputable def En.lf {α : Type} (t : En α) : α := En.rec (motive := fun _ => α) (fun v => v) (fun _ _ a _ => a) t
noncomputable def En.get {α : Type} (q : Pa) : En α → α :=
  Pa.rec (motive := fun _ => En α → α) (fun t => t.lf)
    (fun _ ih t => En.rec (motive := fun _ => α) (fun v => v) (fun l _ _ _ => ih l) t)
    (fun _ ih t => En.rec (motive := fun _ => α) (fun v => v) (fun _ r _ _ => ih r) t) q
/-- A place is set, the way to it carried out; what follows is handed the tree. -/
noncomputable def En.setK {α β : Type} (q : Pa) (v : α) : En α → (En α → β) → β :=
  Pa.rec (motive := fun _ => En α → (En α → β) → β) (fun _ k => k (.leaf v))
    (fun _ ih t k => En.rec (motive := fun _ => β) (fun w => ih (.leaf w) fun l => k (.node l (.leaf w))) (fun l r _ _ => ih l fun l => k (.node l r)) t)
    (fun _ ih t k => En.rec (motive := fun _ => β) (fun w => ih (.leaf w) fun r => k (.node (.leaf w) r)) (fun l r _ _ => ih r fun r => k (.node l r)) t) q
inductive T where
  | bool (b : Bool)
  | int (k : IntKind) (n : Int)
  | str (s : List UInt8)
  | nptr
  | ptr (b o : Nat)
  | nslice
  | slice (b o len cap : Nat)       -- capacity known
  | own (b len : Nat)               -- begins its block; capacity: what the block has
  | sub (b o len : Nat)             -- capacity not known
  | empty                           -- length 0, not nil
  | nmap
  | map (b : Nat)
  | func (fn : Fn) (first caps : List T)
  | nfunc
  | niface
  | agg (cs : List T)
  | tup (vs : List T)
  | any                             -- nothing is known
  deriving Inhabited
inductive VO where
  | row (cs : List T) (ct : TypeId) (tail : Bool)
  | ro (cs : List T) (ct : TypeId)   -- read only: bytes that a string shares
  | map (es : List (T × T × Nat)) (clock : Nat)
  | siter (s : List UInt8) (pos : Nat)
  | miter (m : Nat) (since : Nat) (seen : List Nat) (last : Nat)
  | loop (st : LoopState) (pending : Option Code) (dp n : Nat) (tmps : En T) (params : List Tmp) (assign body : Code) (defers : Nat)
  | defs (open_ : Bool)
  | amap (es : List (T × T × Nat)) (j : Nat) (del : Bool)     -- a map that is ranged over: of its entries the one at j
  | pick (m : Nat)                  -- an iterator over it, at that entry
  | bag (els : List (List T)) (ct : TypeId)   -- a row with an unknown tail, of elements in an order that is not known
  | mlast (m : Nat) (since : Nat) (w : Nat) (last : Nat)   -- an iterator of which only the last entry is known
  | mset (m : Nat) (since : Nat) (seen : List Nat) (last : Nat)   -- an iterator: of what it has seen the set is known, the last one if it is less than since; last if it is not less than since
  | mcnt (m : Nat) (since : Nat) (k : Nat) (bs : List Nat)   -- an iterator of which only is known how many entries it has seen, and that they are of bs
  deriving Inhabited
structure S where
  V : En (Option VO)
  nx : Nat
  low : Nat
/-- How a function's frame is laid: the depth of its tree, and how many slots. -/
structure Fm where
  dp : Nat
  n : Nat
abbrev E := En T
noncomputable def undefT : T := .tup []
noncomputable def seeE (m : Fm) (e : E) (t : Nat) : T := ite (Nat.ble (Nat.succ t) m.n) (En.get (Pa.of m.dp t) e) undefT
noncomputable def S.at (s : S) (b : Nat) : Option VO := ite (Nat.ble b 16383) (En.get (Pa.of 14 b) s.V) none
noncomputable def forceN {β : Type} (n : Nat) (k : Nat → β) : β := Nat.rec (motive := fun _ => β) (k 0) (fun m _ => k (Nat.succ m)) n
noncomputable def forceI {β : Type} (n : Int) (k : Int → β) : β := Int.rec (motive := fun _ => β) (fun a => forceN a fun a => k (.ofNat a)) (fun a => forceN a fun a => k (.negSucc a)) n
noncomputable def force {β : Type} (v : T) (k : T → β) : β :=
  match v with
  | .bool b => Bool.rec (motive := fun _ => β) (k (.bool false)) (k (.bool true)) b
  | .int q n => forceI n fun n => k (.int q n)
  | .ptr b o => forceN b fun b => forceN o fun o => k (.ptr b o)
  | .slice b o n c => forceN b fun b => forceN o fun o => forceN n fun n => forceN c fun c => k (.slice b o n c)
  | .own b n => forceN b fun b => forceN n fun n => k (.own b n)
  | v => k v
/-! types -/
inductive D where
  | int (k : IntKind) | bool | string | slice (el : TypeId) | array (n : Nat) (el : TypeId) | strct (fs : List (Nat × TypeId × Nat)) | map (k v : TypeId) | ptr (el : TypeId) | func | iface | other
/-- The kinds of the cells of a value that is compared cell by cell. -/
inductive Sc where
  | i | b | s
structure TI where
  size : Nat
  bytes : Nat
  zero : T
  d : D
  fl : List Sc
noncomputable def toT : Value → Option T
  | .bool b => some (.bool b)
  | .int k n => some (.int k n)
  | .string s => some (.str s.data.toList)
  | .pointer none => some .nptr
  | .slice none 0 0 => some .nslice
  | .map none => some .nmap
  | .nilFunc => some .nfunc
  | .nilIface => some .niface
  | .func (.func g) a b => match a.toList, b.toList with | [], [] => some (.func (.func g) [] []) | _, _ => none
  | _ => none
noncomputable def toT1 : Value → Option T
  | .agg cs => ((cs.toList).mapM toT).map .agg
  | .tuple cs => ((cs.toList).mapM toT).map .tup
  | v => toT v
noncomputable def mkD (P : Program) (t : TypeId) : D :=
  match P.underlying t with
  | some (.int k) => .int k
  | some .bool => .bool
  | some .string => .string
  | some (.slice el) => .slice el
  | some (.array n el) => .array n el
  | some (.struct fs) => .strct (fs.toList.map fun f => (f.offset, f.type, szT P f.type))
  | some (.map k v) => .map k v
  | some (.pointer el) => .ptr el
  | some (.func _ _ _) => .func
  | some (.interface _) => .iface
  | _ => .other
noncomputable def fieldsOk (P : Program) (t : TypeId) : TypeDesc → Bool | .struct _ => okFields P t | _ => true
noncomputable def mkTI (P : Program) (t : TypeId) : Option TI :=
  match P.info? t, P.underlying t with
  | some i, some d => match i.zero.bind toT1, fieldsOk P t d with
    | some z, true => some ⟨i.size, i.bytes, z, mkD P t, []⟩
    | _, _ => none
  | _, _ => none
noncomputable def scT (P : Program) (u : TypeId) : Option Sc := match P.underlying u with | some (.int _) => some .i | some .bool => some .b | some .string => some .s | _ => none
noncomputable def flE (P : Program) (g : TypeId → Option (List Sc)) : List Field → Nat → Option (List Sc)
  | [], _ => some []
  | f :: fs, i => match f.name != "_" && Nat.beq f.offset i, g f.type with
    | true, some c => (match flE P g fs (i + c.length) with | some r => some (c ++ r) | none => none)
    | _, _ => none
noncomputable def flG (P : Program) : Nat → TypeId → Option (List Sc)
  | 0, _ => none
  | k + 1, u => match scT P u with
    | some c => some [c]
    | none => match P.stoodInHeld u with
      | true => none
      | false => match P.underlying u with
        | some (.struct fs) => (match flE P (flG P k) fs.toList 0 with | some r => (match Nat.beq (szT P u) r.length with | true => some r | false => none) | none => none)
        | some (.array n el) => (match flG P k el with | some r => (match Nat.beq (szT P el) r.length && Nat.beq (szT P u) (n * r.length) with | true => some (List.replicate n r).flatten | false => none) | none => none)
        | _ => none
noncomputable def flT (P : Program) (t : TypeId) : List Sc :=
  match P.eqGuardType P.depth t, scT P t, flG P 4 t with
  | false, none, some r => r
  | _, _, _ => []
structure FI where
  body : Code
  nt : Nat
  res : List ResultVar
noncomputable def mkFI (P : Program) (f : Nat) : Option FI :=
  match P.funcs[f]? with
  | some fn => match fn.body with
    | some c => match bodied P f with | true => some ⟨c, fn.ntmps, fn.results.toList⟩ | false => none
    | none => none
  | none => none
/-- Functions that are not run from their text. -/
inductive X where
  | no
  | mnz (el : TypeId)     -- internal/bytealg.MakeNoZero
  | cnt                   -- internal/bytealg.CountString
  | idx                   -- internal/bytealg.IndexByteString
  | cpy (ct : TypeId)     -- (*strings.Builder).copyCheck
  | tru                   -- a function without arguments that is known to return true
structure Pr where
  ty : Nat → Option TI
  fn : Nat → Option FI
  lib : Nat → Nat
  ext : Nat → X
  mem : Nat → Option (List T → S → Option (T × S))

/-! operations -/
noncomputable def beqI : Int → Int → Bool
  | .ofNat a, .ofNat b => Nat.beq a b
  | .negSucc a, .negSucc b => Nat.beq a b
  | _, _ => false
noncomputable def ltI : Int → Int → Bool
  | .ofNat a, .ofNat b => Nat.blt a b
  | .negSucc a, .negSucc b => Nat.blt b a
  | .negSucc _, .ofNat _ => true
  | .ofNat _, .negSucc _ => false
noncomputable def leI (a b : Int) : Bool := !ltI b a
noncomputable def inK : IntKind → Int → Bool
  | .i64, .ofNat a => Nat.ble a 9223372036854775807
  | .i64, .negSucc a => Nat.ble a 9223372036854775807
  | .u8, .ofNat a => Nat.ble a 255
  | .i32, .ofNat a => Nat.ble a 2147483647
  | .i32, .negSucc a => Nat.ble a 2147483647
  | .u64, .ofNat a => Nat.ble a 18446744073709551615
  | .u32, .ofNat a => Nat.ble a 4294967295
  | _, _ => false
noncomputable def beqK : IntKind → IntKind → Bool
  | .i8, .i8 => true | .i16, .i16 => true | .i32, .i32 => true | .i64, .i64 => true | .u8, .u8 => true | .u16, .u16 => true | .u32, .u32 => true | .u64, .u64 => true | _, _ => false
noncomputable def beqS : List UInt8 → List UInt8 → Bool
  | [], [] => true
  | a :: s, b :: t => match Nat.beq a.toNat b.toNat with | true => beqS s t | false => false
  | _, _ => false
noncomputable def cInt (k : IntKind) (n : Int) : Option T := ite (inK k n) (some (.int k n)) none
noncomputable def intOp (op : BinOp) (k : IntKind) (x y : Int) : Option T :=
  match op with
  | .add => cInt k (Int.add x y)
  | .sub => cInt k (Int.sub x y)
  | .mul => cInt k (Int.mul x y)
  | .quo => match beqI y 0 with | true => none | false => cInt k (x.tdiv y)
  | .rem => match beqI y 0 with | true => none | false => some (.int k (x.tmod y))
  | .eql => some (.bool (beqI x y))
  | .neq => some (.bool (!beqI x y))
  | .lss => some (.bool (ltI x y))
  | .leq => some (.bool (leI x y))
  | .gtr => some (.bool (ltI y x))
  | .geq => some (.bool (leI y x))
  | .and => some (.int k (bitsI .and k x y))
  | .or => some (.int k (bitsI .or k x y))
  | .xor => some (.int k (bitsI .xor k x y))
  | .andNot => some (.int k (bitsI .andNot k x y))
  | _ => none
noncomputable def shOp (op : BinOp) (k : IntKind) (x y : Int) : Option T :=
  match leI 0 y, leI y k.bits with
  | true, true => match op with
    | .shl => cInt k (x * 2 ^ y.toNat)
    | .shr => some (.int k (x / 2 ^ y.toNat))
    | _ => none
  | _, _ => none
/-- Equality of two values without pointers. -/
noncomputable def scEq : Sc → T → T → Option Bool
  | .i, .int k a, .int j b => match beqK k j with | true => some (beqI a b) | false => none
  | .b, .bool a, .bool b => some (a == b)
  | .s, .str a, .str b => some (beqS a b)
  | _, _, _ => none
noncomputable def beqF : List Sc → List T → List T → Option Bool
  | [], [], [] => some true
  | c :: cs, a :: s, b :: t => match scEq c a b with
    | some true => beqF cs s t
    | some false => some false
    | none => none
  | _, _, _ => none
noncomputable def eqAgg (ti : TI) (x y : T) : Option Bool :=
  match x, y with
  | .agg a, .agg b => (match ti.fl with | [] => none | c :: fl => beqF (c :: fl) a b)
  | _, _ => none
noncomputable def keyEq (ti : TI) (x y : T) : Option Bool :=
  match ti.d with
  | .int _ => scEq .i x y
  | .bool => scEq .b x y
  | .string => scEq .s x y
  | .strct _ => eqAgg ti x y
  | .array _ _ => eqAgg ti x y
  | _ => none
noncomputable def sliceNil : T → Option Bool
  | .nslice => some true | .slice .. => some false | .own .. => some false | .sub .. => some false | .empty => some false | _ => none
noncomputable def eqOp (ti : TI) (x y : T) : Option Bool :=
  match ti.d with
  | .bool => (match x, y with | .bool a, .bool b => some (a == b) | _, _ => none)
  | .slice _ => (match y with | .nslice => sliceNil x | _ => none)
  | .map _ _ => (match x, y with | .nmap, .nmap => some true | .map _, .nmap => some false | _, _ => none)
  | .ptr _ => (match x, y with | .nptr, .nptr => some true | .ptr _ _, .nptr => some false | _, _ => none)
  | .func => (match x, y with | .nfunc, .nfunc => some true | .func .., .nfunc => some false | _, _ => none)
  | .iface => (match x, y with | .niface, .niface => some true | _, _ => none)
  | .strct _ => eqAgg ti x y
  | .array _ _ => eqAgg ti x y
  | _ => none
noncomputable def eqnT (op : BinOp) (o : Option Bool) : Option T :=
  match op with
  | .eql => (match o with | some b => some (.bool b) | none => none)
  | .neq => (match o with | some b => some (.bool (!b)) | none => none)
  | _ => none
noncomputable def binT (p : Pr) (op : BinOp) (t : TypeId) (x y : T) : Option T :=
  match x, y with
  | .int k a, .int j b => match op with
    | .shl => shOp .shl k a b
    | .shr => shOp .shr k a b
    | op => match beqK k j with | true => intOp op k a b | false => none
  | .str s, .str t => match op with
    | .add => match Nat.ble (s.length + t.length) 1000000000 with | true => some (.str (s ++ t)) | false => none
    | .eql => some (.bool (beqS s t))
    | .neq => some (.bool (!beqS s t))
    | _ => none
  | x, y => match p.ty t with
    | some ti => eqnT op (eqOp ti x y)
    | none => none
noncomputable def cellsT : T → List T
  | .agg cs => cs
  | v => [v]
noncomputable def notAny : T → Bool | .any => false | _ => true
noncomputable def isAggD : D → Bool | .strct _ => true | .array _ _ => true | _ => false
noncomputable def rowAt (s : S) (b : Nat) : Option (List T) := match s.at b with | some (.row cs _ _) => some cs | some (.ro cs _) => some cs | _ => none
noncomputable def lenGe {α : Type} : List α → Nat → Bool := fun l n => Nat.ble n l.length
noncomputable def loadT (p : Pr) (s : S) (t : TypeId) (x : T) : Option T :=
  match x with
  | .ptr b o => match p.ty t, rowAt s b with
    | some ti, some cs => match isAggD ti.d with
      | true => match Nat.ble (o + ti.size) cs.length with | true => some (.agg ((cs.drop o).take ti.size)) | false => none
      | false => cs[o]?
    | _, _ => none
  | _ => none
noncomputable def spl (c : List T) (off : Nat) (vs : List T) : List T := c.take off ++ vs ++ c.drop (off + vs.length)
noncomputable def oneT : T → Bool | .agg _ => false | .tup _ => false | .any => false | _ => true
noncomputable def minN (a b : Nat) : Nat := match Nat.ble a b with | true => a | false => b
noncomputable def setV (s : S) (b : Nat) (o : Option VO) (nx low : Nat) : S := ite (Nat.ble b 16383) (En.setK (Pa.of 14 b) o s.V fun v => ⟨v, nx, low⟩) ⟨s.V, nx, low⟩
noncomputable def putO (s : S) (b : Nat) (o : VO) : S := forceN (minN s.low b) fun lo => setV s b (some o) s.nx lo
noncomputable def newO (s : S) (o : VO) : S := forceN s.low fun lo => forceN (Nat.succ s.nx) fun n => setV s s.nx (some o) n lo
noncomputable def setQ (s : S) (b : Nat) (o : VO) : S := setV s b (some o) s.nx s.low
noncomputable def storeT (p : Pr) (s : S) (t : TypeId) (x v : T) : Option S :=
  match x with
  | .ptr b o => match p.ty t, s.at b with
    | some ti, some (.row cs ct tl) =>
      let vs := cellsT v
      match Nat.beq vs.length ti.size && Nat.ble (o + vs.length) cs.length && vs.all oneT with
      | true => some (putO s b (.row (spl cs o vs) ct tl))
      | false => none
    | _, _ => none
  | _ => none
noncomputable def fieldOf (fs : List (Nat × TypeId × Nat)) (i : Nat) : Option (Nat × TypeId × Nat) := fs[i]?
noncomputable def sliceParts : T → Option (Nat × Nat × Nat)   -- block, offset, length
  | .slice b o len _ => some (b, o, len)
  | .own b len => some (b, 0, len)
  | .sub b o len => some (b, o, len)
  | _ => none
noncomputable def inR (n : Int) (len : Nat) : Option Nat := match n with | .ofNat a => (match Nat.blt a len with | true => some a | false => none) | .negSucc _ => none
noncomputable def leR (n : Int) (len : Nat) : Option Nat := match n with | .ofNat a => (match Nat.ble a len with | true => some a | false => none) | .negSucc _ => none
noncomputable def idxAddrT (p : Pr) (t : TypeId) (x i : T) : Option T :=
  match i with
  | .int _ n => match p.ty t with
    | some ti => match ti.d with
      | .slice el => match p.ty el, sliceParts x with
        | some ei, some (b, o, len) => match inR n len with | some j => some (.ptr b (o + j * ei.size)) | none => none
        | _, _ => none
      | .array len el => match p.ty el, x with
        | some ei, .ptr b o => match inR n len with | some j => some (.ptr b (o + j * ei.size)) | none => none
        | _, _ => none
      | _ => none
    | none => none
  | _ => none
noncomputable def fillT (pl : Nat → Option (Nat × Nat)) : List T → List (Nat × T) → Option (List T)
  | cells, [] => some cells
  | cells, (i, v) :: rest => match pl i with
    | some (off, size) => match notAny v && Nat.beq (cellsT v).length size && Nat.ble (off + size) cells.length with
      | true => fillT pl (spl cells off (cellsT v)) rest
      | false => none
    | none => none
noncomputable def buildT (p : Pr) (t : TypeId) (parts : List (Nat × T)) : Option T :=
  match p.ty t with
  | some ti => match notAny ti.zero with
   | false => none
   | true => match ti.d with
    | .strct fs => (fillT (fun i => (fieldOf fs i).map fun (o, _, s) => (o, s)) (cellsT ti.zero) parts).map .agg
    | .array _ el => match p.ty el with
      | some ei => (fillT (fun i => some (i * ei.size, ei.size)) (cellsT ti.zero) parts).map .agg
      | none => none
    | _ => none
  | none => none
noncomputable def rep (n : Nat) (l : List T) : List T := match n with | 0 => [] | n + 1 => l ++ rep n l
noncomputable def bsliceT (p : Pr) (s : S) (t : TypeId) (n : Nat) (parts : List (Nat × T)) : Option (T × S) :=
  match p.ty t with
  | some ti => match ti.d with
    | .slice el => match p.ty el with
      | some ei => match notAny ei.zero && Nat.beq (cellsT ei.zero).length ei.size && Nat.ble 1 ei.size && Nat.ble (n * ei.size) 16777216 with
        | true => match fillT (fun i => some (i * ei.size, ei.size)) (rep n (cellsT ei.zero)) parts with
          | some cs => some (.slice s.nx 0 n n, newO s (.row cs el false))
          | none => none
        | false => none
      | none => none
    | _ => none
  | none => none
noncomputable def bytesOf : List T → Option (List UInt8)
  | [] => some []
  | .int .u8 (.ofNat n) :: r => match Nat.blt n 256, bytesOf r with | true, some s => some (UInt8.ofNat n :: s) | _, _ => none
  | _ => none
noncomputable def toBytes (s : List UInt8) : List T := s.map fun b => .int .u8 (.ofNat b.toNat)
/-- The cells of a slice. -/
noncomputable def sliceCells (p : Pr) (s : S) (el : TypeId) (x : T) : Option (List T) :=
  match x with
  | .nslice => some []
  | .empty => some []
  | x => match p.ty el, sliceParts x with
    | some ei, some (b, o, len) => match rowAt s b with
      | some cs => match Nat.ble (o + len * ei.size) cs.length with | true => some ((cs.drop o).take (len * ei.size)) | false => none
      | none => none
    | _, _ => none
noncomputable def sliceLen : T → Option Nat
  | .nslice => some 0
  | .empty => some 0
  | .slice _ _ n _ => some n
  | .own _ n => some n
  | .sub _ _ n => some n
  | _ => none
/-- What is appended, or copied: its cells, and how many elements. -/
noncomputable def srcT (p : Pr) (s : S) (el : TypeId) (xt : Option TypeId) (y : T) : Option (List T × Nat) :=
  match xt with
  | some xt => match p.ty xt with
    | some xi => match xi.d with
      | .string => (match y with | .str t => some (toBytes t, t.length) | _ => none)
      | .slice _ => (match sliceCells p s el y, sliceLen y with | some c, some n => some (c, n) | _, _ => none)
      | _ => none
    | none => none
  | none => none
/-- A row of its own: what is in it, and behind it, where it is grown, what is not known. -/
noncomputable def ownRow (s : S) (el : TypeId) (cs : List T) (n : Nat) : Option (T × S) := some (.own s.nx n, newO s (.row cs el true))
noncomputable def appAt (s : S) (el : TypeId) (size : Nat) (b len : Nat) (old news : List T) (m : Nat) : Option (T × S) :=
  match s.at b with
  | some (.row cs ct true) => match Nat.beq ct el with
    | true => match Nat.ble ((len + m) * size) cs.length with
      | true => some (.own b (len + m), putO s b (.row (spl cs (len * size) news) ct true))
      | false => ownRow (setV s b none s.nx (minN s.low b)) el (old ++ news) (len + m)
    | false => none
  | _ => none
noncomputable def appIn (s : S) (b o len cap size : Nat) (news : List T) (m : Nat) : Option (T × S) :=
  match s.at b with
  | some (.row cs ct tl) => match Nat.ble (o + (len + m) * size) cs.length with
    | true => some (.slice b o (len + m) cap, putO s b (.row (spl cs (o + len * size) news) ct tl))
    | false => none
  | _ => none
noncomputable def appendT (p : Pr) (s : S) (el : TypeId) (x : T) (news : List T) (m : Nat) : Option (T × S) :=
  match p.ty el, sliceCells p s el x, sliceLen x with
  | some ei, some old, some len =>
    match Nat.ble 1 ei.size && Nat.ble 1 ei.bytes && Nat.beq news.length (m * ei.size) && Nat.ble ((len + m) * ei.bytes) 1000000 && news.all oneT && (notAny ei.zero && Nat.beq (cellsT ei.zero).length ei.size) with
    | true => match x with
      | .nslice => (match m with
        | 0 => some (.nslice, s)
        | m + 1 => ownRow s el news (m + 1))
      | .slice b o len cap => (match Nat.ble (len + m) cap with
        | true => appIn s b o len cap ei.size news m
        | false => ownRow s el (old ++ news) (len + m))
      | .own b len => appAt s el ei.size b len old news m
      | _ => none
    | false => none
  | _, _, _ => none
noncomputable def bagAt (s : S) (x : T) : Option (Nat × Nat × List (List T) × TypeId) :=
  match x with
  | .own b len => (match s.at b with | some (.bag els ct) => some (b, len, els, ct) | _ => none)
  | _ => none
/-- One element more, in a bag. -/
noncomputable def appBag (p : Pr) (s : S) (el : TypeId) (x : T) (news : List T) (m : Nat) : Option (T × S) :=
  match bagAt s x with
  | some (b, len, els, ct) => (match p.ty el with
    | some ei => (match Nat.beq ct el && (Nat.beq m 1 && (Nat.beq els.length len && els.all fun e => Nat.beq e.length ei.size)) with
      | true => (match Nat.ble 1 ei.size && Nat.ble 1 ei.bytes && Nat.beq news.length (m * ei.size) && Nat.ble ((len + m) * ei.bytes) 1000000 && news.all oneT && (notAny ei.zero && Nat.beq (cellsT ei.zero).length ei.size) with
        | true => some (.own s.nx (len + m), newO (setV s b none s.nx (minN s.low b)) (.bag (els ++ [news]) el))
        | false => none)
      | false => none)
    | none => none)
  | none => none
abbrev Ent := T × T × Nat
noncomputable def findI (ki : TI) (k : T) : List Ent → Option (Option Nat)
  | [] => some none
  | e :: es => match keyEq ki k e.1 with
    | some true => some (some 0)
    | some false => (match findI ki k es with | some (some j) => some (some (Nat.succ j)) | some none => some none | none => none)
    | none => none
noncomputable def modE (f : Ent → Ent) : List Ent → Nat → List Ent
  | [], _ => []
  | e :: es, 0 => f e :: es
  | e :: es, n + 1 => e :: modE f es n
noncomputable def delE : List Ent → Nat → List Ent
  | [], _ => []
  | _ :: es, 0 => es
  | e :: es, n + 1 => e :: delE es n
/-- The key's type of a map's type, and its elements'. -/
noncomputable def mapTy (p : Pr) (t : TypeId) : Option (TI × TI) :=
  match p.ty t with
  | some ti => match ti.d with
    | .map kt vt => (match p.ty kt, p.ty vt with | some ki, some vi => some (ki, vi) | _, _ => none)
    | _ => none
  | none => none
noncomputable def entsAt (s : S) : T → Option (List Ent)
  | .nmap => some []
  | .map b => match s.at b with | some (.map es _) => some es | _ => none
  | _ => none
noncomputable def lookupT (p : Pr) (s : S) (t : TypeId) (x k : T) (ok : Bool) : Option T :=
  match mapTy p t, entsAt s x with
  | some (ki, vi), some es => match keyEq ki k k with
   | some true => match findI ki k es with
    | some (some j) => (match es[j]? with | some e => some (match ok with | true => .tup [e.2.1, .bool true] | false => e.2.1) | none => none)
    | some none => some (match ok with | true => .tup [vi.zero, .bool false] | false => vi.zero)
    | none => none
   | _ => none
  | _, _ => none
noncomputable def mupdT (p : Pr) (s : S) (t : TypeId) (x k v : T) : Option S :=
  match mapTy p t, x with
  | some (ki, _), .map b => match s.at b with
    | some (.map es c) => match keyEq ki k k with
     | some true => match findI ki k es with
      | some (some j) => some (putO s b (.map (modE (fun e => (k, v, e.2.2)) es j) c))
      | some none => some (putO s b (.map (es ++ [(k, v, c)]) (c + 1)))
      | none => none
     | _ => none
    | _ => none
  | _, _ => none
noncomputable def mentryT (p : Pr) (s : S) (t : TypeId) (x k : T) : Option (T × S) :=
  match mapTy p t, x with
  | some (ki, vi), .map b => match s.at b with
    | some (.map es c) => match keyEq ki k k with
     | some true => match findI ki k es with
      | some (some j) => (match es[j]? with | some e => some (.tup [e.2.1, .int .i64 (.ofNat e.2.2)], putO s b (.map (modE (fun e => (k, e.2.1, e.2.2)) es j) c)) | none => none)
      | some none => some (.tup [vi.zero, .int .i64 (.ofNat c)], putO s b (.map (es ++ [(k, vi.zero, c)]) (c + 1)))
      | none => none
     | _ => none
    | _ => none
  | _, _ => none
noncomputable def findB (w : Nat) : List Ent → Option Nat
  | [] => none
  | e :: es => match Nat.beq w e.2.2 with | true => some 0 | false => (match findB w es with | some j => some (Nat.succ j) | none => none)
noncomputable def estoreT (s : S) (x w v : T) : Option S :=
  match x, w with
  | .map b, .int _ (.ofNat w) => (match s.at b with
    | some (.map es c) => (match findB w es with | some j => some (putO s b (.map (modE (fun e => (e.1, v, e.2.2)) es j) c)) | none => none)
    | _ => none)
  | _, _ => none
noncomputable def lenT (s : S) : T → Option Nat
  | .str t => some t.length
  | .nslice => some 0
  | .empty => some 0
  | .slice _ _ n _ => some n
  | .own _ n => some n
  | .sub _ _ n => some n
  | .nmap => some 0
  | .map b => match s.at b with | some (.map es _) => some es.length | _ => none
  | _ => none
noncomputable def bndT (v : Option T) (d : Nat) (hi : Nat) : Option Nat :=
  match v with
  | none => leR (.ofNat d) hi
  | some (.int _ n) => leR n hi
  | _ => none
/-- The three bounds of a slice: from l to r, its capacity ending at m. -/
noncomputable def bndsT (lo hi mx : Option T) (len top : Nat) : Option (Nat × Nat × Nat) :=
  match mx with
  | none => match bndT hi len top with
    | some r => match bndT lo 0 r with
      | some l => some (l, r, top)
      | none => none
    | none => none
  | some m => match hi with
    | none => none
    | some hi => match bndT (some m) 0 top with
      | some m => match bndT (some hi) 0 m with
        | some r => match bndT lo 0 r with
          | some l => some (l, r, m)
          | none => none
        | none => none
      | none => none
/-- What is left of a slice from l to r, its capacity ending at m. -/
noncomputable def cutK (b o sz l r m : Nat) : T := .slice b (match Nat.beq m l with | true => o | false => o + l * sz) (r - l) (m - l)
noncomputable def cutU (b o sz l r : Nat) : T := match Nat.blt l r with | true => .sub b (o + l * sz) (r - l) | false => .empty
noncomputable def slStr (s : List UInt8) (lo hi mx : Option T) : Option T :=
  match bndsT lo hi mx s.length s.length, mx with
  | some (l, r, _), none => some (.str ((s.drop l).take (r - l)))
  | _, _ => none
/-- How many elements a row of its own has room for, as far as is known. -/
noncomputable def ownTop (s : S) (el : TypeId) (sz b len : Nat) : Nat :=
  match s.at b with
  | some (.row cs ct true) => (match Nat.beq ct el && Nat.ble 1 sz with | true => Nat.div cs.length sz | false => len)
  | _ => len
noncomputable def slSl (s : S) (el : TypeId) (sz : Nat) (x : T) (lo hi mx : Option T) : Option T :=
  match x with
  | .nslice => match bndsT lo hi mx 0 0 with | some _ => some .nslice | none => none
  | .empty => match bndsT lo hi mx 0 0, mx with | some _, none => some .empty | _, _ => none
  | .slice b o len c => match bndsT lo hi mx len c with | some (l, r, m) => some (cutK b o sz l r m) | none => none
  | .own b len => match bndsT lo hi mx len (ownTop s el sz b len) with
    | some (l, r, m) => match mx with
      | none => (match l with | 0 => some (.own b r) | l + 1 => some (cutU b 0 sz (l + 1) r))
      | some _ => some (cutK b 0 sz l r m)
    | none => none
  | .sub b o len => match bndsT lo hi mx len len with
    | some (l, r, m) => match mx with
      | none => (match l with | 0 => some (.sub b o r) | l + 1 => some (cutU b o sz (l + 1) r))
      | some _ => some (cutK b o sz l r m)
    | none => none
  | _ => none
noncomputable def slArr (sz n : Nat) (x : T) (lo hi mx : Option T) : Option T :=
  match x, mx with
  | .ptr b o, none => match bndsT lo hi none n n with | some (l, r, m) => some (cutK b o sz l r m) | none => none
  | _, _ => none
noncomputable def sliceOpT (p : Pr) (s : S) (t : TypeId) (x : T) (lo hi mx : Option T) : Option T :=
  match p.ty t with
  | some ti => match ti.d with
    | .string => (match x with | .str s => slStr s lo hi mx | _ => none)
    | .slice el => match p.ty el with | some ei => slSl s el ei.size x lo hi mx | none => none
    | .array n el => match p.ty el with | some ei => slArr ei.size n x lo hi mx | none => none
    | _ => none
  | none => none
noncomputable def runeAt (s : List UInt8) (pos : Nat) : Option (Nat × Nat) := match s[pos]? with | some b => (match Nat.blt b.toNat 128 with | true => some (b.toNat, 1) | false => none) | none => none
noncomputable def nextT (s : S) (x : T) (str : Bool) : Option (T × S) :=
  match x with
  | .ptr r 0 => match s.at r, str with
    | some (.siter t pos), true => match Nat.blt pos t.length with
      | true => match runeAt t pos with
        | some (c, w) => some (.tup [.bool true, .int .i64 (.ofNat pos), .int .i32 (.ofNat c)], putO s r (.siter t (pos + w)))
        | none => none
      | false => some (.tup [.bool false], s)
    | some (.miter m since seen last), false => match s.at m with
      | some (.map es clock) => match Nat.ble since last && es.all (fun e => Nat.blt e.2.2 since) with
        | true => (match es.filter (fun e => !(seen.any fun b => Nat.beq b e.2.2)) with
          | [] => some (.tup [.bool false], s)
          | [e] => some (.tup [.bool true, e.1, e.2.1], putO s r (.miter m since (seen ++ [e.2.2]) clock))
          | _ => none)
        | false => none
      | _ => none
    | _, _ => none
  | _ => none
noncomputable def entryT (s : S) (x : T) : Option T :=
  match x with
  | .ptr r 0 => match s.at r with
    | some (.pick mp) => (match s.at mp with | some (.amap es j false) => (match es[j]? with | some e => some (.tup [e.1, e.2.1]) | none => none) | _ => none)
    | some (.mlast mp _ w last) => (match s.at mp with
      | some (.map es clock) => (match Nat.beq clock last with
        | true => (match es.find? fun e => Nat.beq e.2.2 w with | some e => some (.tup [e.1, e.2.1]) | none => none)
        | false => none)
      | _ => none)
    | some (.mset mp since seen last) => (match s.at mp, seen.getLast? with
      | some (.map es clock), some b => (match Nat.beq clock last && (Nat.blt b since && Nat.ble since last) with
        | true => (match es.find? fun e => Nat.beq e.2.2 b with | some e => some (.tup [e.1, e.2.1]) | none => none)
        | false => none)
      | _, _ => none)
    | some (.miter mp _ seen last) => (match s.at mp, seen.getLast? with
      | some (.map es clock), some b => (match Nat.beq clock last with
        | true => (match es.find? fun e => Nat.beq e.2.2 b with | some e => some (.tup [e.1, e.2.1]) | none => none)
        | false => none)
      | _, _ => none)
    | _ => none
  | _ => none
noncomputable def opd (m : Fm) (e : E) : Operand → Option T
  | .tmp t => some (seeE m e t)
  | .const v => toT1 v
  | .func f => some (.func (.func f) [] [])
  | .global _ => none
noncomputable def opds (m : Fm) (e : E) : List Operand → Option (List T)
  | [] => some []
  | x :: xs => match opd m e x, opds m e xs with | some a, some r => some (a :: r) | _, _ => none
noncomputable def partsT (m : Fm) (e : E) : List (Nat × Operand) → Option (List (Nat × T))
  | [] => some []
  | (i, x) :: xs => match opd m e x, partsT m e xs with | some a, some r => some ((i, a) :: r) | _, _ => none
noncomputable def opdO (m : Fm) (e : E) : Option Operand → Option (Option T)
  | none => some none
  | some x => match opd m e x with | some a => some (some a) | none => none
noncomputable def sliceElem (p : Pr) (t : Option TypeId) : Option TypeId :=
  match t with
  | some t => match p.ty t with | some ti => (match ti.d with | .slice el => some el | _ => none) | none => none
  | none => none
noncomputable def descOf (p : Pr) (t : Option TypeId) : Option D := match t with | some t => (match p.ty t with | some ti => some ti.d | none => none) | none => none
noncomputable def mapLen (s : S) : T → Option Nat
  | .nmap => some 0
  | .map b => match s.at b with | some (.map es _) => some es.length | _ => none
  | _ => none
noncomputable def deleteT (s : S) (ki : TI) (b : Nat) (k : T) : Option (T × S) :=
  match s.at b with
  | some (.map es c) => (match keyEq ki k k, findI ki k es with
    | some true, some (some j) => some (.tup [], putO s b (.map (delE es j) c))
    | some true, some none => some (.tup [], putO s b (.map es c))
    | _, _ => none)
  | some (.amap es j false) => (match keyEq ki k k, findI ki k es with
    | some true, some (some i) => (match Nat.beq i j with | true => some (.tup [], setQ s b (.amap es j true)) | false => none)
    | _, _ => none)
  | _ => none
noncomputable def lenB (p : Pr) (s : S) (ats : List TypeId) (x : T) : Option (T × S) :=
  match descOf p ats[0]? with
  | some .string => (match x with | .str t => some (.int .i64 (.ofNat t.length), s) | _ => none)
  | some (.slice _) => (match sliceLen x with | some n => some (.int .i64 (.ofNat n), s) | none => none)
  | some (.map _ _) => (match mapLen s x with | some n => some (.int .i64 (.ofNat n), s) | none => none)
  | _ => none
noncomputable def minB (s : S) (x y : T) : Option (T × S) :=
  match x, y with
  | .int k x, .int j y => (match beqK k j with | true => some (.int k (match ltI y x with | true => y | false => x), s) | false => none)
  | _, _ => none
noncomputable def maxB (s : S) (x y : T) : Option (T × S) :=
  match x, y with
  | .int k x, .int j y => (match beqK k j with | true => some (.int k (match ltI x y with | true => y | false => x), s) | false => none)
  | _, _ => none
noncomputable def isIntT (p : Pr) (t : Option TypeId) : Bool := match descOf p t with | some (.int _) => true | _ => false
/-- So many zeros, appended to nil. -/
noncomputable def appZ (p : Pr) (s : S) (el : TypeId) (x y : T) : Option (T × S) :=
  match x, y, p.ty el with
  | .nslice, .int .i64 (.ofNat (m + 1)), some ei => (match Nat.ble 1 ei.size && Nat.ble 1 ei.bytes && Nat.ble ((m + 1) * ei.bytes) 1000000 && (notAny ei.zero && Nat.beq (cellsT ei.zero).length ei.size) with
    | true => ownRow s el (rep (m + 1) (cellsT ei.zero)) (m + 1)
    | false => none)
  | _, _, _ => none
noncomputable def appB (p : Pr) (s : S) (ats : List TypeId) (x y : T) : Option (T × S) :=
  match sliceElem p ats[0]? with
  | some el => (match isIntT p ats[1]? with
    | true => appZ p s el x y
    | false => (match srcT p s el ats[1]? y with | some (news, m) => (match appBag p s el x news m with | some r => some r | none => appendT p s el x news m) | none => none))
  | none => none
noncomputable def copyAt (s : S) (b o k size m : Nat) (src : List T) : Option (T × S) :=
  match s.at b with
  | some (.row cs ct tl) => match Nat.ble (o + k * size) cs.length && (src.take (k * size)).all oneT && Nat.beq src.length (m * size) with
    | true => some (.int .i64 (.ofNat k), putO s b (.row (spl cs o (src.take (k * size))) ct tl))
    | false => none
  | _ => none
noncomputable def copyB (p : Pr) (s : S) (ats : List TypeId) (x y : T) : Option (T × S) :=
  match sliceElem p ats[0]? with
  | some el => match p.ty el, srcT p s el ats[1]? y, sliceLen x with
    | some ei, some (src, m), some n => (match sliceParts x with
      | some (b, o, _) => copyAt s b o (minN m n) ei.size m src
      | none => match x, Nat.beq src.length (m * ei.size) with | .nslice, true => some (.int .i64 0, s) | _, _ => none)
    | _, _, _ => none
  | none => none
noncomputable def clearAt (s : S) (b o n : Nat) (ei : TI) : Option (T × S) :=
  match s.at b with
  | some (.row cs ct tl) => match Nat.ble (o + n * ei.size) cs.length && notAny ei.zero && (cellsT ei.zero).all oneT && Nat.beq (cellsT ei.zero).length ei.size with
    | true => some (.tup [], putO s b (.row (spl cs o (rep n (cellsT ei.zero))) ct tl))
    | false => none
  | _ => none
noncomputable def clearB (p : Pr) (s : S) (ats : List TypeId) (x : T) : Option (T × S) :=
  match descOf p ats[0]? with
  | some (.map _ _) => (match x with
    | .map b => (match s.at b with | some (.map _ c) => some (.tup [], putO s b (.map [] c)) | _ => none)
    | .nmap => some (.tup [], s)
    | _ => none)
  | some (.slice el) => (match x with
    | .nslice => some (.tup [], s)
    | x => (match sliceParts x, p.ty el with | some (b, o, n), some ei => clearAt s b o n ei | _, _ => none))
  | _ => none
noncomputable def delB (p : Pr) (s : S) (ats : List TypeId) (x k : T) : Option (T × S) :=
  match ats[0]? with
  | some t => (match mapTy p t, x with
    | some (ki, _), .map b => deleteT s ki b k
    | _, _ => none)
  | none => none
noncomputable def capB (p : Pr) (s : S) (ats : List TypeId) (x : T) : Option (T × S) :=
  match descOf p ats[0]? with
  | some (.slice _) => (match x with | .nslice => some (.int .i64 0, s) | .slice _ _ _ c => some (.int .i64 (.ofNat c), s) | _ => none)
  | _ => none
noncomputable def isByte (p : Pr) (el : TypeId) : Bool := match p.ty el with | some ei => (match ei.d with | .int .u8 => Nat.beq ei.size 1 | _ => false) | none => false
/-- The address of a slice's first element. -/
noncomputable def sdataB (s : S) (x : T) : Option (T × S) :=
  match x with
  | .nslice => some (.nptr, s)
  | .own b (n + 1) => some (.ptr b 0, s)
  | .slice b o _ (c + 1) => some (.ptr b o, s)
  | _ => none
/-- The bytes at an address become a string; they stay as they are. -/
noncomputable def ustrAt (p : Pr) (s : S) (pt : TypeId) (b n : Nat) : Option (T × S) :=
  match p.ty pt with
  | some pi => (match pi.d with
    | .ptr el => (match s.at b with
      | some (.row cs ct _) => (match Nat.beq el ct && isByte p el && Nat.ble (n + 1) cs.length && Nat.ble n 1000000, bytesOf (cs.take (n + 1)) with
        | true, some l => some (.str l, setV s b (some (.ro cs ct)) s.nx (minN s.low b))
        | _, _ => none)
      | _ => none)
    | _ => none)
  | none => none
noncomputable def ustrB (p : Pr) (s : S) (ats : List TypeId) (x y : T) : Option (T × S) :=
  match ats, x, y with
  | [_, _], .nptr, .int .i64 (.ofNat 0) => some (.str [], s)
  | [pt, _], .ptr b 0, .int .i64 (.ofNat (n + 1)) => ustrAt p s pt b n
  | _, _, _ => none
noncomputable def builtinT (p : Pr) (s : S) (b : Builtin) (ats : List TypeId) (vs : List T) : Option (T × S) :=
  match b, vs with
  | .len, [x] => lenB p s ats x
  | .cap, [x] => capB p s ats x
  | .clear, [x] => clearB p s ats x
  | .min, [x, y] => minB s x y
  | .max, [x, y] => maxB s x y
  | .append, [x, y] => appB p s ats x y
  | .copy, [x, y] => copyB p s ats x y
  | .delete, [x, k] => delB p s ats x k
  | .unsafeSliceData, [x] => sdataB s x
  | .unsafeString, [x, y] => ustrB p s ats x y
  | _, _ => none
/-- A string's bytes, in a row that is read only. -/
noncomputable def toBytesT (p : Pr) (s : S) (el : TypeId) (t : List UInt8) : Option (T × S) :=
  match isByte p el with
  | true => some (.sub s.nx 0 t.length, newO s (.ro (toBytes t) el))
  | false => none
noncomputable def ofBytesT (p : Pr) (s : S) (el : TypeId) (x : T) : Option (T × S) :=
  match isByte p el, sliceCells p s el x, sliceLen x with
  | true, some cs, some _ => (match bytesOf cs with | some t => some (.str t, s) | none => none)
  | _, _, _ => none
noncomputable def convT (p : Pr) (s : S) (src dst : TypeId) (x : T) : Option (T × S) :=
  match p.ty src, p.ty dst with
  | some si, some di => match si.d, di.d, x with
    | .int _, .int k, .int _ n => (match cInt k n with | some v => some (v, s) | none => none)
    | .string, .string, .str t => some (.str t, s)
    | .string, .slice el, .str t => toBytesT p s el t
    | .slice el, .string, x => ofBytesT p s el x
    | .int _, .string, .int _ (.ofNat n) => (match Nat.blt n 128 with | true => some (.str [UInt8.ofNat n], s) | false => none)
    | _, _, _ => none
  | _, _ => none
noncomputable def boolsI : T → Option Bool | .bool b => some b | _ => none

noncomputable def pu (s : S) (v : Option T) : Option (T × S) := bnd v fun v => some (v, s)
noncomputable def do_move (p : Pr) (m : Fm) (e : E) (s : S) (x : Operand) : Option (T × S) :=
  pu s (opd m e x)
noncomputable def do_assign (p : Pr) (m : Fm) (e : E) (s : S) (x : Operand) : Option (T × S) :=
  pu s (opd m e x)
noncomputable def do_pick (p : Pr) (m : Fm) (e : E) (s : S) (c : Operand) (a : Operand) (b : Operand) : Option (T × S) :=
  match opd m e c with
    | some (.bool true) => pu s (opd m e a)
    | some (.bool false) => pu s (opd m e b)
    | _ => none
noncomputable def do_alloc (p : Pr) (m : Fm) (e : E) (s : S) (t : TypeId) : Option (T × S) :=
  match p.ty t with
  | some ti => (match notAny ti.zero with | true => some (.ptr s.nx 0, newO s (.row (cellsT ti.zero) t false)) | false => none)
  | none => none
noncomputable def do_box (p : Pr) (m : Fm) (e : E) (s : S) (t : TypeId) (x : Operand) : Option (T × S) :=
  match opd m e x with
  | some v => (match notAny v with | true => some (.ptr s.nx 0, newO s (.row (cellsT v) t false)) | false => none)
  | none => none
noncomputable def do_build (p : Pr) (m : Fm) (e : E) (s : S) (t : TypeId) (parts : Array (Nat × Operand)) : Option (T × S) :=
  match partsT m e parts.toList with | some ps => pu s (buildT p t ps) | none => none
noncomputable def do_buildSlice (p : Pr) (m : Fm) (e : E) (s : S) (t : TypeId) (n : Nat) (parts : Array (Nat × Operand)) : Option (T × S) :=
  match partsT m e parts.toList with | some ps => bsliceT p s t n ps | none => none
noncomputable def do_load (p : Pr) (m : Fm) (e : E) (s : S) (t : TypeId) (x : Operand) : Option (T × S) :=
  match opd m e x with | some v => pu s (loadT p s t v) | none => none
noncomputable def do_store (p : Pr) (m : Fm) (e : E) (s : S) (t : TypeId) (a : Operand) (x : Operand) : Option (T × S) :=
  match opd m e a, opd m e x with
    | some a, some v => match storeT p s t a v with | some s => some (undefT, s) | none => none
    | _, _ => none
noncomputable def do_nilCheck (p : Pr) (m : Fm) (e : E) (s : S) (x : Operand) : Option (T × S) :=
  match opd m e x with | some (.ptr b o) => some (.ptr b o, s) | _ => none
noncomputable def isC : Operand → Bool | .const _ => true | _ => false
/-- nil of an interface type is compared where it stands in the text. -/
noncomputable def nifOk (b : T) (y : Operand) : Bool := match b with | .niface => isC y | _ => true
noncomputable def do_binOp (p : Pr) (m : Fm) (e : E) (s : S) (op : BinOp) (t : TypeId) (x : Operand) (y : Operand) : Option (T × S) :=
  match opd m e x, opd m e y with | some a, some b => (match nifOk b y with | true => pu s (binT p op t a b) | false => none) | _, _ => none
noncomputable def do_not (p : Pr) (m : Fm) (e : E) (s : S) (x : Operand) : Option (T × S) :=
  match opd m e x with | some (.bool b) => some (.bool (!b), s) | _ => none
noncomputable def do_neg (p : Pr) (m : Fm) (e : E) (s : S) (x : Operand) : Option (T × S) :=
  match opd m e x with | some (.int k n) => pu s (cInt k (0 - n)) | _ => none
noncomputable def do_un (p : Pr) (m : Fm) (e : E) (s : S) (u : UnOp) (x : Operand) : Option (T × S) :=
  match u with | .not => do_not p m e s x | .neg => do_neg p m e s x | _ => none
noncomputable def do_convert (p : Pr) (m : Fm) (e : E) (s : S) (a : TypeId) (b : TypeId) (x : Operand) : Option (T × S) :=
  match opd m e x with | some v => convT p s a b v | none => none
noncomputable def do_makeFunc (p : Pr) (m : Fm) (e : E) (s : S) (fn : Fn) (first : Array Operand) (caps : Array Operand) : Option (T × S) :=
  match fn with
  | .func g => (match opds m e first.toList, opds m e caps.toList with | some a, some b => some (.func (.func g) a b, s) | _, _ => none)
  | _ => none
noncomputable def do_makeMap (p : Pr) (m : Fm) (e : E) (s : S) (r : Option Operand) : Option (T × S) :=
  match r with | none => some (.map s.nx, newO s (.map [] 0)) | some _ => none
noncomputable def mkSliceT (p : Pr) (s : S) (el : TypeId) (n k : Nat) : Option (T × S) :=
  match p.ty el with
  | some ei => match notAny ei.zero && Nat.beq (cellsT ei.zero).length ei.size && Nat.ble 1 ei.size && Nat.ble n k && Nat.ble (k * ei.size) 1000000 && Nat.ble (k * ei.bytes) 1000000 with
    | true => some (.slice s.nx 0 n k, newO s (.row (rep k (cellsT ei.zero)) el false))
    | false => none
  | none => none
noncomputable def do_makeSlice (p : Pr) (m : Fm) (e : E) (s : S) (t : TypeId) (l : Operand) (c : Operand) : Option (T × S) :=
  match opd m e l, opd m e c, p.ty t with
    | some (.int _ n), some (.int _ k), some ti => match ti.d, n, k with
      | .slice el, .ofNat n, .ofNat k => mkSliceT p s el n k
      | _, _, _ => none
    | _, _, _ => none
noncomputable def do_slice (p : Pr) (m : Fm) (e : E) (s : S) (t : TypeId) (x : Operand) (lo : Option Operand) (hi : Option Operand) (mx : Option Operand) : Option (T × S) :=
  match opd m e x, opdO m e lo, opdO m e hi, opdO m e mx with
    | some x, some lo, some hi, some mx => pu s (sliceOpT p s t x lo hi mx)
    | _, _, _, _ => none
noncomputable def do_fieldAddr (p : Pr) (m : Fm) (e : E) (s : S) (t : TypeId) (x : Operand) (f : Nat) : Option (T × S) :=
  match opd m e x, p.ty t with
  | some (.ptr b o), some ti => (match ti.d with
    | .strct fs => (match fieldOf fs f with
      | some (off, ft, _) => (match p.ty ft with
        | some fi => (match Nat.ble 1 fi.size with | true => some (.ptr b (o + off), s) | false => none)
        | none => none)
      | none => none)
    | _ => none)
  | _, _ => none
noncomputable def do_field (p : Pr) (m : Fm) (e : E) (s : S) (t : TypeId) (x : Operand) (f : Nat) : Option (T × S) :=
  match opd m e x, p.ty t with
    | some (.agg cs), some ti => (match ti.d with
      | .strct fs => match fieldOf fs f with
        | some (off, ft, sz) => match p.ty ft with
          | some fi => (match isAggD fi.d with
            | true => match Nat.ble (off + sz) cs.length with | true => some (.agg ((cs.drop off).take sz), s) | false => none
            | false => pu s cs[off]?)
          | none => none
        | none => none
      | _ => none)
    | _, _ => none
noncomputable def do_indexAddr (p : Pr) (m : Fm) (e : E) (s : S) (t : TypeId) (x : Operand) (i : Operand) : Option (T × S) :=
  match opd m e x, opd m e i with | some x, some i => pu s (idxAddrT p t x i) | _, _ => none
noncomputable def do_index (p : Pr) (m : Fm) (e : E) (s : S) (t : TypeId) (x i : Operand) : Option (T × S) :=
  match opd m e x, opd m e i with
  | some xv, some (.int _ n) => (match p.ty t with
    | some ti => (match ti.d, xv with
      | .string, .str a => (match inR n a.length with
        | some j => (match a[j]? with | some b => some (.int .u8 (.ofNat b.toNat), s) | none => none)
        | none => none)
      | .array len el, .agg cs => (match p.ty el, inR n len with
        | some ei, some j => (match isAggD ei.d with
          | true => (match Nat.ble (j * ei.size + ei.size) cs.length with | true => some (.agg ((cs.drop (j * ei.size)).take ei.size), s) | false => none)
          | false => pu s cs[j * ei.size]?)
        | _, _ => none)
      | _, _ => none)
    | none => none)
  | _, _ => none
noncomputable def do_lookup (p : Pr) (m : Fm) (e : E) (s : S) (t : TypeId) (x : Operand) (k : Operand) (ok : Bool) : Option (T × S) :=
  match opd m e x, opd m e k with | some x, some k => pu s (lookupT p s t x k ok) | _, _ => none
noncomputable def do_mapUpdate (p : Pr) (m : Fm) (e : E) (s : S) (t : TypeId) (x : Operand) (k : Operand) (v : Operand) : Option (T × S) :=
  match opd m e x, opd m e k, opd m e v with
    | some x, some k, some v => match mupdT p s t x k v with | some s => some (undefT, s) | none => none
    | _, _, _ => none
noncomputable def do_range (p : Pr) (m : Fm) (e : E) (s : S) (t : TypeId) (x : Operand) : Option (T × S) :=
  match opd m e x, p.ty t with
  | some xv, some ti => (match ti.d, xv with
    | .string, .str a => some (.ptr s.nx 0, newO s (.siter a 0))
    | .map _ _, .map b => (match s.at b with
      | some (.map _ c) => some (.ptr s.nx 0, newO s (.miter b c [] c))
      | _ => none)
    | _, _ => none)
  | _, _ => none
noncomputable def do_next (p : Pr) (m : Fm) (e : E) (s : S) (x : Operand) (str : Bool) : Option (T × S) :=
  match opd m e x with | some x => nextT s x str | none => none
noncomputable def do_extract (p : Pr) (m : Fm) (e : E) (s : S) (x : Operand) (i : Nat) : Option (T × S) :=
  match opd m e x with | some (.tup vs) => pu s vs[i]? | _ => none
noncomputable def do_call (p : Pr) (m : Fm) (e : E) (s : S) (c : Call) : Option (T × S) :=
  match c.callee with
    | .builtin b => match opds m e c.args.toList with | some vs => builtinT p s b c.argTypes.toList vs | none => none
    | _ => none
noncomputable def do_entry (p : Pr) (m : Fm) (e : E) (s : S) (x : Operand) : Option (T × S) := match opd m e x with | some x => pu s (entryT s x) | none => none
noncomputable def do_mapEntry (p : Pr) (m : Fm) (e : E) (s : S) (t : TypeId) (x k : Operand) : Option (T × S) := match opd m e x, opd m e k with | some x, some k => mentryT p s t x k | _, _ => none
noncomputable def do_entryStore (p : Pr) (m : Fm) (e : E) (s : S) (x w v : Operand) : Option (T × S) :=
  match opd m e x, opd m e w, opd m e v with | some x, some w, some v => (match estoreT s x w v with | some s => some (undefT, s) | none => none) | _, _, _ => none
/-- One operation, but for calls of functions. -/
noncomputable def stepOp (p : Pr) (m : Fm) (o : Op) (e : E) (s : S) : Option (T × S) :=
  match o with
  | .move x => do_move p m e s x
  | .assign x => do_assign p m e s x
  | .pick c a b => do_pick p m e s c a b
  | .alloc t => do_alloc p m e s t
  | .box t x => do_box p m e s t x
  | .build t parts => do_build p m e s t parts
  | .buildSlice t n parts => do_buildSlice p m e s t n parts
  | .load t x => do_load p m e s t x
  | .store t a x => do_store p m e s t a x
  | .nilCheck x => do_nilCheck p m e s x
  | .binOp op t x y _ => do_binOp p m e s op t x y
  | .unOp u t x => do_un p m e s u x
  | .convert a b x => do_convert p m e s a b x
  | .makeFunc fn first caps => do_makeFunc p m e s fn first caps
  | .makeMap _ r => do_makeMap p m e s r
  | .makeSlice t l c => do_makeSlice p m e s t l c
  | .slice t x lo hi mx => do_slice p m e s t x lo hi mx
  | .fieldAddr t x f => do_fieldAddr p m e s t x f
  | .field t x f => do_field p m e s t x f
  | .indexAddr t x i => do_indexAddr p m e s t x i
  | .index t x i => do_index p m e s t x i
  | .lookup t x k ok => do_lookup p m e s t x k ok
  | .mapUpdate t x k v => do_mapUpdate p m e s t x k v
  | .range t x => do_range p m e s t x
  | .next x str => do_next p m e s x str
  | .extract x i => do_extract p m e s x i
  | .entry x => do_entry p m e s x
  | .mapEntry t x k => do_mapEntry p m e s t x k
  | .entryStore _ x w v => do_entryStore p m e s x w v
  | .call c => do_call p m e s c
  | _ => none
/-! code -/
inductive Res (α : Type) where
  | ok (a : α)
  | bad (why : String)
inductive Ex where
  | normal | exit (i : Nat) | goto (i : Nat) | ret
structure Out where
  x : Ex
  e : E
  d : List Nat
  s : S
abbrev CallRun := T → List T → S → Res (T × S)
abbrev CodeRun := Fm → Option Nat → Code → E → List Nat → S → Res Out
noncomputable def callOf : Op → Option (Operand × List Operand)
  | .call c => match c.callee with | .value f => some (f, c.args.toList) | _ => none
  | _ => none
noncomputable def callAt (m : Fm) (cf : CallRun) (f : Operand) (xs : List Operand) (pos : String) (e : E) (s : S) : Res (T × S) :=
  match opd m e f, opds m e xs with
  | some g, some vs => (match cf g vs s with | .ok r => .ok r | .bad w => .bad (w ++ " < " ++ pos))
  | _, _ => .bad pos
noncomputable def plainAt (p : Pr) (m : Fm) (o : Op) (pos : String) (e : E) (s : S) : Res (T × S) :=
  match stepOp p m o e s with
  | some r => .ok r
  | none => .bad pos
noncomputable def oper (p : Pr) (m : Fm) (cf : CallRun) (o : Op) (pos : String) (e : E) (s : S) : Res (T × S) :=
  match callOf o with
  | some (f, xs) => callAt m cf f xs pos e s
  | none => plainAt p m o pos e s
/-- Is the operation carried out? -/
noncomputable def wants (m : Fm) (all : List Oper) (g : Option (Nat × Bool)) (e : E) : Option Bool :=
  match g with
  | none => some true
  | some (j, want) => match gslot all j with
    | none => some false
    | some t => match seeE m e t with
      | .bool b => some (match b, want with | true, true => true | false, false => true | _, _ => false)
      | .tup [] => some false
      | _ => none
noncomputable def putRun (m : Fm) (e : E) (d : Option Tmp) (v : T) (pos : String) (s : S) (k : E → S → Res (E × S)) : Res (E × S) :=
  match d with
  | none => k e s
  | some t => ite (Nat.ble (Nat.succ t) m.n) (force v fun v => En.setK (Pa.of m.dp t) v e fun e => k e s) (.bad pos)
noncomputable def runOp (p : Pr) (m : Fm) (cf : CallRun) (all : List Oper) (o : Oper) (k : E → S → Res (E × S)) (e : E) (s : S) : Res (E × S) :=
  match wants m all o.guard e with
  | some true => match oper p m cf o.op o.pos e s with
    | .ok (v, s) => putRun m e o.dst v o.pos s k
    | .bad w => .bad w
  | some false => putRun m e o.dst undefT o.pos s k
  | none => .bad o.pos
noncomputable def runOps (p : Pr) (m : Fm) (cf : CallRun) (all : List Oper) (ops : List Oper) : E → S → Res (E × S) :=
  List.rec (motive := fun _ => E → S → Res (E × S)) (fun e s => .ok (e, s)) (fun o _ ih => runOp p m cf all o ih) ops
/-- Values laid into slots from i on. -/
noncomputable def fillE {β : Type} (m : Fm) : List T → Nat → E → (E → β) → β
  | [], _, e, k => k e
  | v :: vs, i, e, k => En.setK (Pa.of m.dp i) v e fun e => fillE m vs (Nat.succ i) e k
noncomputable def resT (p : Pr) (m : Fm) : List ResultVar → E → S → Option (List T)
  | [], _, _ => some []
  | .tmp t :: rs, e, s => match resT p m rs e s with | some r => some (seeE m e t :: r) | none => none
  | .cell a t :: rs, e, s => match loadT p s t (seeE m e a), resT p m rs e s with | some v, some r => some (v :: r) | _, _ => none
noncomputable def packT : List T → T | [v] => v | vs => .tup vs
noncomputable def setAll {β : Type} (m : Fm) : List Tmp → List T → E → (E → β) → β
  | q :: qs, v :: vs, e, k => En.setK (Pa.of m.dp q) v e fun e => setAll m qs vs e k
  | _, _, e, k => k e
noncomputable def closeD : List Nat → S → Option S
  | [], s => some s
  | b :: ds, s => match s.at b with
    | some (.defs true) => closeD ds (putO s b (.defs false))
    | _ => none
structure LO where
  st : LoopState
  pend : Option Code
  m : Fm
  tm : En T
  pa : List Tmp
  asg : Code
  bd : Code
  df : Nat
noncomputable def loopAt (s : S) (l : Nat) : Option LO := match s.at l with | some (.loop st pend dp n tm pa asg bd df) => some ⟨st, pend, ⟨dp, n⟩, tm, pa, asg, bd, df⟩ | _ => none
noncomputable def putLoop (s : S) (l : Nat) (r : LO) : S := putO s l (.loop r.st r.pend r.m.dp r.m.n r.tm r.pa r.asg r.bd r.df)
noncomputable def depthOf (n : Nat) : Nat := ite (Nat.ble n 16) 4 (ite (Nat.ble n 64) 6 (ite (Nat.ble n 256) 8 10))
noncomputable def endFn (p : Pr) (m : Fm) (rs : List ResultVar) (e : E) (d : List Nat) (s : S) : Res (T × S) :=
  match closeD d s with
  | some s => match resT p m rs e s with
    | some vs => .ok (packT vs, s)
    | none => .bad "results"
  | none => .bad "marks"
noncomputable def callFn (p : Pr) (self : CodeRun) (g : FuncId) (vs : List T) (s : S) : Res (T × S) :=
  match p.fn g with
  | some fi => ite (Nat.ble vs.length fi.nt && Nat.ble fi.nt 1024) (fillE ⟨depthOf fi.nt, fi.nt⟩ vs 0 (.leaf undefT) fun e =>
    match self ⟨depthOf fi.nt, fi.nt⟩ none fi.body e [] s with
    | .ok ⟨.normal, e, d, s⟩ => endFn p ⟨depthOf fi.nt, fi.nt⟩ fi.res e d s
    | .ok ⟨.ret, e, d, s⟩ => endFn p ⟨depthOf fi.nt, fi.nt⟩ fi.res e d s
    | .ok _ => .bad "leaves"
    | .bad w => .bad w) (.bad "frame")
  | none => .bad ("no function " ++ toString g)
/-- Texts joined. -/
noncomputable def joinL (sep : List UInt8) : List T → Option (List UInt8)
  | [] => some []
  | [.str a] => some a
  | .str a :: r => match joinL sep r with | some b => some (a ++ sep ++ b) | none => none
  | _ => none
noncomputable def libT (s : S) (c : Nat) (args : List T) : Option (T × S) :=
  match c, args with
  | 1, [x, .str sep] => (match sliceParts x with
    | some (b, o, n) => (match rowAt s b with
      | some cs => (match Nat.ble (o + n) cs.length, joinL sep ((cs.drop o).take n) with | true, some r => some (.str r, s) | _, _ => none)
      | none => none)
    | none => match x with | .nslice => some (.str [], s) | .empty => some (.str [], s) | _ => none)
  | _, _ => none
noncomputable def callLib (p : Pr) (self : CodeRun) (g : FuncId) (vs : List T) (s : S) : Res (T × S) :=
  match p.lib g with
  | 0 => callFn p self g vs s
  | c => match libT s c vs with | some r => .ok r | none => .bad "library"
/-- A call whose answer is known already, or the call. -/
noncomputable def callAny (p : Pr) (self : CodeRun) (g : FuncId) (vs : List T) (s : S) : Res (T × S) :=
  match p.mem g with
  | none => callLib p self g vs s
  | some f => match f vs s with
    | some r => .ok r
    | none => callLib p self g vs s
noncomputable def jumpOf : Ex → Option Code | .normal => none | .ret => some .ret | .exit i => some (.exit i) | .goto i => some (.goto i)
noncomputable def callYield (self : CodeRun) (l : Nat) (args : List T) (s : S) : Res (T × S) :=
  match loopAt s l with
  | some r => ite (Nat.beq r.pa.length args.length && r.pa.all fun q => Nat.ble (Nat.succ q) r.m.n) (setAll r.m r.pa args r.tm fun e =>
    match self r.m (some l) r.asg e [] s with
      | .ok ⟨.normal, e, d, s⟩ => match loopAt s l with
        | some r' => match r'.st with
          | .ready => match self r.m (some l) r.bd e d (putLoop s l { r' with st := .busy }) with
            | .ok ⟨x, _, _, s⟩ => match loopAt s l with
              | some r => (match jumpOf x with
                | none => .ok (.bool true, putLoop s l { r with st := .ready, pend := none })
                | some j => .ok (.bool false, putLoop s l { r with st := .done, pend := some j }))
              | none => .bad "round's record"
            | .bad w => .bad w
          | _ => .bad "round not ready"
        | none => .bad "round's record"
      | .ok _ => .bad "round's head"
      | .bad w => .bad w) (.bad "yield's arguments")
  | none => .bad "no record"
noncomputable def extT (p : Pr) (s : S) (x : X) (args : List T) : Option (T × S) :=
  match x, args with
  | .mnz el, [.int .i64 (.ofNat n)] => (match isByte p el && Nat.ble n 1000000 with
    | true => some (.own s.nx n, newO s (.row (rep n [.any]) el true))
    | false => none)
  | .cnt, [.str l, .int .u8 (.ofNat c)] => some (.int .i64 (.ofNat (Lib.countByte l (UInt8.ofNat c))), s)
  | .idx, [.str l, .int .u8 (.ofNat c)] => some (.int .i64 (Lib.indexByte l (UInt8.ofNat c)), s)
  | .tru, [] => some (.bool true, s)
  | .cpy k, [.ptr b 0] => (match s.at b with
    | some (.row [c, d] ct false) => (match c, Nat.beq ct k with
      | .nptr, true => some (.tup [], putO s b (.row [.ptr b 0, d] ct false))
      | .ptr b' 0, true => (match Nat.beq b' b with | true => some (.tup [], s) | false => none)
      | _, _ => none)
    | _ => none)
  | _, _ => none
noncomputable def extAny (p : Pr) (s : S) (x : X) (first caps args : List T) : Res (T × S) :=
  match first, caps with
  | [], [] => (match extT p s x args with | some r => .ok r | none => .bad "extern")
  | _, _ => .bad "extern"
noncomputable def callF (p : Pr) (self : CodeRun) (g : FuncId) (first caps args : List T) (s : S) : Res (T × S) :=
  match p.ext g with
  | .no => callAny p self g (first ++ args ++ caps) s
  | x => extAny p s x first caps args
noncomputable def callT (p : Pr) (self : CodeRun) : CallRun := fun f args s =>
  match f with
  | .func (.func g) first caps => callF p self g first caps args s
  | .func (.yield l) [] [] => callYield self l args s
  | _ => .bad "callee"
noncomputable def callG (p : Pr) (self : CodeRun) : CallRun := fun f args s =>
  match f with
  | .func (.func g) first caps => callAny p self g (first ++ args ++ caps) s
  | _ => .bad "callee"
noncomputable def around (ro : Option Nat) (d : List Nat) (s : S) : Option (Nat × List Nat × S) :=
  match ro with
  | some l => match loopAt s l with | some r => some (r.df, d, s) | none => none
  | none => some (s.nx, s.nx :: d, newO s (.defs true))
noncomputable def rangeF (p : Pr) (self : CodeRun) (m : Fm) (ro : Option Nat) (g : T) (ps : List Tmp) (a b : Code) (e : E) (d : List Nat) (s : S) : Res Out :=
  match around ro d s with
  | some (df, d, s) => match callG p self g [.func (.yield s.nx) [] []] (newO s (.loop .ready none m.dp m.n e ps a b df)) with
    | .ok (_, s') => match loopAt s' s.nx with
      | some r => match r.st with
        | .busy => .bad "record busy"
        | _ => match r.pend with
          | none => .ok ⟨.normal, e, d, putLoop s' s.nx { r with st := .exhausted }⟩
          | some j => self m ro j e d (putLoop s' s.nx { r with st := .exhausted })
      | none => .bad "no record"
    | .bad w => .bad w
  | none => .bad "around"
noncomputable def doSeq (self : CodeRun) (m : Fm) (ro : Option Nat) (a b : Code) (e : E) (d : List Nat) (s : S) : Res Out :=
  match self m ro a e d s with
  | .ok ⟨.normal, e, d, s⟩ => self m ro b e d s
  | r => r
noncomputable def doCond (self : CodeRun) (m : Fm) (ro : Option Nat) (x : Operand) (a b : Code) (e : E) (d : List Nat) (s : S) : Res Out :=
  match opd m e x with
  | some (.bool true) => self m ro a e d s
  | some (.bool false) => self m ro b e d s
  | _ => .bad "cond"
noncomputable def doBlock (self : CodeRun) (m : Fm) (ro : Option Nat) (i : Nat) (b : Code) (e : E) (d : List Nat) (s : S) : Res Out :=
  match self m ro b e d s with
  | .ok ⟨.exit j, e, d, s⟩ => (match Nat.beq j i with | true => .ok ⟨.normal, e, d, s⟩ | false => .ok ⟨.exit j, e, d, s⟩)
  | r => r
/-! regions that draw their order -/
/-- 0: it neither reads nor writes the heap; 1: it reads; 2: it may do more; 3: it makes a block. -/
noncomputable def kindOf : Op → Nat
  | .move _ => 0
  | .assign _ => 0
  | .pick _ _ _ => 0
  | .build _ _ => 0
  | .nilCheck _ => 0
  | .binOp _ _ _ _ _ => 0
  | .unOp _ _ _ => 0
  | .convert _ _ _ => 0
  | .makeFunc _ _ _ => 0
  | .slice _ _ _ _ _ => 0
  | .fieldAddr _ _ _ => 0
  | .field _ _ _ => 0
  | .indexAddr _ _ _ => 0
  | .index _ _ _ => 0
  | .extract _ _ => 0
  | .call c => (match c.callee with | .builtin .len => 0 | .builtin .min => 0 | .builtin .max => 0 | .builtin .cap => 0 | _ => 2)
  | .load _ _ => 1
  | .lookup _ _ _ _ => 1
  | .entry _ => 1
  | .alloc _ => 3
  | .box _ _ => 3
  | .buildSlice _ _ _ => 3
  | .makeSlice _ _ _ => 3
  | .makeMap _ _ => 3
  | _ => 2
noncomputable def opsOf : Op → List Operand
  | .move x => [x]
  | .assign x => [x]
  | .pick c a b => [c, a, b]
  | .box _ x => [x]
  | .build _ ps => ps.toList.map (·.2)
  | .buildSlice _ _ ps => ps.toList.map (·.2)
  | .load _ x => [x]
  | .store _ a x => [a, x]
  | .nilCheck x => [x]
  | .binOp _ _ x y _ => [x, y]
  | .unOp _ _ x => [x]
  | .convert _ _ x => [x]
  | .makeFunc _ a b => a.toList ++ b.toList
  | .makeSlice _ a b => [a, b]
  | .slice _ x lo hi mx => x :: (lo.toList ++ hi.toList ++ mx.toList)
  | .fieldAddr _ x _ => [x]
  | .field _ x _ => [x]
  | .indexAddr _ x i => [x, i]
  | .index _ x i => [x, i]
  | .lookup _ x k _ => [x, k]
  | .mapUpdate _ x k v => [x, k, v]
  | .range _ x => [x]
  | .next x _ => [x]
  | .extract x _ => [x]
  | .entry x => [x]
  | .mapEntry _ x k => [x, k]
  | .entryStore _ x w v => [x, w, v]
  | .call c => (match c.callee with | .value f => [f] | _ => []) ++ c.args.toList
  | _ => []
noncomputable def opTmps : List Operand → List Tmp
  | [] => []
  | .tmp t :: r => t :: opTmps r
  | _ :: r => opTmps r
/-- The slots that an operation looks at. -/
noncomputable def looks (all : List Oper) (o : Oper) : List Tmp :=
  match o.guard with
  | none => opTmps (opsOf o.op)
  | some (j, _) => match gslot all j with | some t => t :: opTmps (opsOf o.op) | none => opTmps (opsOf o.op)
noncomputable def deps (o : Oper) : List Nat := (o.after.toList.filter fun e => Region.binds .any e).map fun e => e.on
noncomputable def hasN (i : Nat) : List Nat → Bool
  | [] => false
  | j :: r => match Nat.beq i j with | true => true | false => hasN i r
noncomputable def maxN (a b : Nat) : Nat := match Nat.ble a b with | true => b | false => a
structure PO where
  k : Nat
  lo : Nat
  hi : Nat
noncomputable def is2 (k : Nat) : Bool := Nat.beq k 2
noncomputable def loOf (ks los : List Nat) : List Nat → Nat
  | [] => 0
  | d :: ds => maxN (maxN (match ks[d]? with | some k => (match is2 k with | true => d + 1 | false => 0) | none => 0) (match los[d]? with | some x => x | none => 0)) (loOf ks los ds)
noncomputable def losGo (ks : List Nat) : List Oper → List Nat → List Nat
  | [], los => los
  | o :: os, los => forceN (loOf ks los (deps o)) fun x => losGo ks os (los ++ [x])
noncomputable def hiIn (i n : Nat) : List Oper → List Nat → Nat → Nat
  | o :: os, hj :: r, j => (match hasN i (deps o) with
    | true => minN (match is2 (kindOf o.op) with | true => j | false => hj) (hiIn i n os r (Nat.succ j))
    | false => hiIn i n os r (Nat.succ j))
  | _, _, _ => n
noncomputable def hisR (n : Nat) : List Oper → Nat → List Oper → List Nat → List Nat
  | [], _, _, acc => acc
  | o :: ro, i, later, acc => forceN (hiIn (Nat.pred i) n later acc i) fun x => hisR n ro (Nat.pred i) (o :: later) (x :: acc)
noncomputable def zipPo : List Nat → List Nat → List Nat → List PO
  | k :: ks, l :: ls, h :: hs => ⟨k, l, h⟩ :: zipPo ks ls hs
  | _, _, _ => []
noncomputable def kindsOf : List Oper → List Nat
  | [] => []
  | o :: os => forceN (kindOf o.op) fun k => k :: kindsOf os
noncomputable def planOf (ops : List Oper) : List PO := zipPo (kindsOf ops) (losGo (kindsOf ops) ops []) (hisR ops.length ops.reverse ops.length [] [])
/-- Each place, with its number. -/
noncomputable def allI {α : Type} (f : Nat → α → Bool) : List α → Nat → Bool
  | [], _ => true
  | x :: r, i => match f i x with | true => allI f r (Nat.succ i) | false => false
noncomputable def anyI {α : Type} (f : Nat → α → Bool) : List α → Nat → Bool
  | [], _ => false
  | x :: r, i => match f i x with | true => true | false => anyI f r (Nat.succ i)
noncomputable def loOk (l : List (Oper × PO)) (po : PO) (ds : List Nat) : Bool :=
  match po.lo with
  | 0 => true
  | c + 1 => ds.any fun d => match l[d]? with
    | some x => (is2 x.2.k && Nat.beq c d) || Nat.beq x.2.lo (c + 1)
    | none => false
noncomputable def hiOk (l : List (Oper × PO)) (i : Nat) (po : PO) : Bool :=
  Nat.ble l.length po.hi || anyI (fun j x => hasN i (deps x.1) && ((is2 x.2.k && Nat.beq po.hi j) || Nat.beq x.2.hi po.hi)) l 0
noncomputable def chainOk (l : List (Oper × PO)) (i : Nat) (po : PO) : Bool :=
  match is2 po.k with
  | true => allI (fun j x => match Nat.blt j i && is2 x.2.k with | true => Nat.blt j po.lo | false => true) l 0
  | false => true
noncomputable def sameSlot (d : Option Tmp) (t : Tmp) : Bool := match d with | some q => Nat.beq q t | none => false
noncomputable def slotsOk (all : List Oper) (l : List (Oper × PO)) (i : Nat) (o : Oper) : Bool :=
  allI (fun j x => match x.1.dst with
    | none => true
    | some q => Nat.beq i j || (!(sameSlot o.dst q) && (!(hasN q (looks all o)) || hasN j (deps o) || hasN i (deps x.1)))) l 0
noncomputable def planOk (all : List Oper) (l : List (Oper × PO)) : Bool :=
  allI (fun i x => (deps x.1).all (fun d => Nat.blt d i) && Nat.beq x.2.k (kindOf x.1.op) && Nat.ble x.2.lo i && loOk l x.2 (deps x.1) && hiOk l i x.2 && chainOk l i x.2 && slotsOk all l i x.1) l 0
noncomputable def eqT1 : T → T → Bool
  | .int k a, .int j b => beqK k j && beqI a b
  | .bool true, .bool true => true
  | .bool false, .bool false => true
  | .str a, .str b => beqS a b
  | .nptr, .nptr => true
  | .ptr a o, .ptr b q => Nat.beq a b && Nat.beq o q
  | .nslice, .nslice => true
  | .slice b o n c, .slice b' o' n' c' => Nat.beq b b' && Nat.beq o o' && Nat.beq n n' && Nat.beq c c'
  | .own b n, .own b' n' => Nat.beq b b' && Nat.beq n n'
  | .sub b o n, .sub b' o' n' => Nat.beq b b' && Nat.beq o o' && Nat.beq n n'
  | .nmap, .nmap => true
  | .map a, .map b => Nat.beq a b
  | .nfunc, .nfunc => true
  | .niface, .niface => true
  | _, _ => false
noncomputable def eqTs : List T → List T → Bool
  | [], [] => true
  | a :: r, b :: q => eqT1 a b && eqTs r q
  | _, _ => false
noncomputable def eqA1 : T → T → Bool
  | .agg a, .agg b => eqTs a b
  | a, b => eqT1 a b
noncomputable def eqAs : List T → List T → Bool
  | [], [] => true
  | a :: r, b :: q => eqA1 a b && eqAs r q
  | _, _ => false
noncomputable def eqT : T → T → Bool
  | .agg a, .agg b => eqTs a b
  | .tup a, .tup b => eqAs a b
  | a, b => eqT1 a b
noncomputable def eqFn : Fn → Fn → Bool
  | .func f, .func g => Nat.beq f g
  | .yield f, .yield g => Nat.beq f g
  | _, _ => false
/-- Like eqT, functions too. -/
noncomputable def eqF : T → T → Bool
  | .func f a b, .func g c d => eqFn f g && eqTs a c && eqTs b d
  | .empty, .empty => true
  | a, b => eqT a b
structure Rec where
  o : Oper
  po : PO
  w : Bool
  t : T
  e : E
  s : S
  b : Nat
  ob : Option VO
noncomputable def sNil : S := ⟨.leaf none, 1000000, 1000000000⟩
noncomputable def sFix {β : Type} (s : S) (k : S → β) : β := match s with | ⟨V, nx, low⟩ => k ⟨V, nx, low⟩
/-- Blocks that are made are laid open where they are first wanted. -/
noncomputable def act : List Rec → Nat → S → S
  | [], _, s => s
  | r :: al, q, s => match r.ob with
    | some ob => (match Nat.beq r.po.hi q with | true => act al q (setV s r.b (some ob) s.nx s.low) | false => act al q s)
    | none => act al q s
/-- An operation by its kind. -/
noncomputable def kindRun (p : Pr) (m : Fm) (cf : CallRun) (o : Oper) (k : Nat) (e : E) (s sa : S) : Res (T × S) :=
  match k with
  | 0 => (match stepOp p m o.op e sNil with
    | some (t, s1) => (match Nat.beq s1.nx 1000000 && Nat.ble 1000000 s1.low with | true => .ok (t, s) | false => .bad o.pos)
    | none => .bad o.pos)
  | 1 => (match stepOp p m o.op e s with | some (t, _) => .ok (t, s) | none => .bad o.pos)
  | _ => (match Nat.ble s.nx 1000000 with | true => oper p m cf o.op o.pos e sa | false => .bad o.pos)
noncomputable def sAt (b : Nat) : S := ⟨.leaf none, b, 1000000000⟩
noncomputable def allocRun (p : Pr) (m : Fm) (o : Oper) (e : E) (b : Nat) : Option (T × VO) :=
  match stepOp p m o.op e (sAt b) with
  | some (t, s1) => (match s1.at b with | some ob => some (t, ob) | none => none)
  | none => none
abbrev DrawK := List Rec → Nat → E → S → (E → S → List Rec → Res (E × S)) → Res (E × S)
noncomputable def drawOp (p : Pr) (m : Fm) (cf : CallRun) (all : List Oper) (i : Nat) (o : Oper) (po : PO) (ih : DrawK) (al : List Rec) (nb : Nat) (e : E) (s : S) (k : E → S → List Rec → Res (E × S)) : Res (E × S) :=
  match wants m all o.guard e with
  | some true => (match Nat.beq po.k 3 with
    | true => (match allocRun p m o e nb with
      | some (t, ob) => putRun m e o.dst t o.pos s fun e' s' => ih (⟨o, po, true, t, e, s, nb, some ob⟩ :: al) (Nat.succ nb) e' s' fun ef sf rs => k ef sf (⟨o, po, true, t, e, s, nb, some ob⟩ :: rs)
      | none => .bad o.pos)
    | false => (match sFix (act al i s) fun sa => kindRun p m cf o po.k e s sa with
      | .ok (t, s1) => putRun m e o.dst t o.pos s1 fun e' s' => ih al nb e' s' fun ef sf rs => k ef sf (⟨o, po, true, t, e, s, 0, none⟩ :: rs)
      | .bad w => .bad w))
  | some false => putRun m e o.dst undefT o.pos s fun e' s' => ih al nb e' s' fun ef sf rs => k ef sf (⟨o, po, false, undefT, e, s, 0, none⟩ :: rs)
  | none => .bad o.pos
noncomputable def drawGo (p : Pr) (m : Fm) (cf : CallRun) (all : List Oper) (l : List (Oper × PO)) : Nat → DrawK :=
  List.rec (motive := fun _ => Nat → DrawK) (fun _ _ _ e s k => k e s []) (fun x _ ih i al nb e s k => drawOp p m cf all i x.1 x.2 (ih (Nat.succ i)) al nb e s k) l
/-- A reading gives the same wherever it may be done. -/
noncomputable def readOk (p : Pr) (m : Fm) (r : Rec) (v : S) : Bool := match stepOp p m r.o.op r.e v with | some (t, _) => eqF r.t t | none => false
noncomputable def readsOk (p : Pr) (m : Fm) (rs : List Rec) (n : Nat) (sn : S) (r : Rec) : Bool :=
  match r.w && Nat.beq r.po.k 1 with
  | true => allI (fun q x => match is2 x.po.k && Nat.ble r.po.lo q && Nat.ble q r.po.hi with | true => readOk p m r x.s | false => true) rs 0 && (match Nat.ble r.po.lo n && Nat.ble n r.po.hi with | true => readOk p m r sn | false => true)
  | false => true
noncomputable def count3 : List (Oper × PO) → Nat
  | [] => 0
  | x :: r => match Nat.beq x.2.k 3 with | true => Nat.succ (count3 r) | false => count3 r
noncomputable def doDraw (p : Pr) (self : CodeRun) (m : Fm) (ops : Array Oper) (e : E) (d : List Nat) (s : S) : Res Out :=
  match planOk ops.toList (ops.toList.zip (planOf ops.toList)) && Nat.beq (planOf ops.toList).length ops.toList.length with
  | true => (match drawGo p m (callT p self) ops.toList (ops.toList.zip (planOf ops.toList)) 0 [] s.nx e ⟨s.V, s.nx + count3 (ops.toList.zip (planOf ops.toList)), s.low⟩ (fun ef sn rs =>
      match rs.all (readsOk p m rs rs.length sn) && rs.all (fun r => Nat.ble r.s.nx 1000000) && Nat.ble sn.nx 1000000 with | true => sFix (act rs rs.length sn) fun sf => .ok (ef, sf) | false => .bad "a reading hangs on the order") with
    | .ok (e, s) => .ok ⟨.normal, e, d, s⟩
    | .bad w => .bad w)
  | false => .bad "no plan"
noncomputable def doRegion (p : Pr) (self : CodeRun) (m : Fm) (ops : Array Oper) (e : E) (d : List Nat) (s : S) : Res Out :=
  match runOps p m (callT p self) ops.toList ops.toList e s with
  | .ok (e, s) => .ok ⟨.normal, e, d, s⟩
  | .bad w => .bad w
noncomputable def headNext : Code → Option Tmp
  | .seq a _ => headNext a
  | .region _ ops false => match ops.toList with
    | o :: _ => (match o.guard, o.op with | none, .next (.tmp t) false => some t | _, _ => none)
    | [] => none
  | _ => none
/-- The slots that a code may write; those that it assigns. -/
noncomputable def dsts : Code → List Tmp
  | .seq a b => dsts a ++ dsts b
  | .cond _ a b => dsts a ++ dsts b
  | .block _ b => dsts b
  | .region _ ops _ => ops.toList.filterMap fun o => o.dst
  | .loop b => dsts b
  | .scope b => dsts b
  | .rangeFunc _ ps a b => ps.toList ++ dsts a ++ dsts b
  | _ => []
noncomputable def asgOf (o : Oper) : Option Tmp := match o.op with | .assign _ => o.dst | _ => none
noncomputable def asgs : Code → List Tmp
  | .seq a b => asgs a ++ asgs b
  | .cond _ a b => asgs a ++ asgs b
  | .block _ b => asgs b
  | .region _ ops _ => ops.toList.filterMap asgOf
  | .loop b => asgs b
  | .scope b => asgs b
  | .rangeFunc _ _ a b => asgs a ++ asgs b
  | _ => []
noncomputable def forget (m : Fm) : List Tmp → E → E
  | [], e => e
  | t :: ts, e => ite (Nat.ble (Nat.succ t) m.n) (En.setK (Pa.of m.dp t) T.any e fun e => forget m ts e) (forget m ts e)
noncomputable def isBool (m : Fm) (e : E) (t : Tmp) : Bool := match seeE m e t with | .bool _ => ite (Nat.ble (Nat.succ t) m.n) true false | _ => false
noncomputable def accOf (m : Fm) (e : E) (b : Code) : Option (Option Tmp) :=
  match (asgs b).filter (isBool m e) with
  | [] => some none
  | [t] => some (some t)
  | _ => none
noncomputable def setAcc (m : Fm) (a : Option Tmp) (v : Bool) (e : E) : E := match a with | none => e | some t => En.setK (Pa.of m.dp t) (.bool v) e fun e => e
noncomputable def getAcc (m : Fm) (a : Option Tmp) (e : E) : Option Bool := match a with | none => some false | some t => match seeE m e t with | .bool v => some v | _ => none
/-- The head of a loop over a map, its first operation having given v. -/
noncomputable def runHead (p : Pr) (self : CodeRun) (m : Fm) (ro : Option Nat) (v : T) : Code → E → List Nat → S → Res Out
  | .seq a b, e, d, s => (match runHead p self m ro v a e d s with | .ok ⟨.normal, e, d, s⟩ => self m ro b e d s | r => r)
  | .region _ ops false, e, d, s => (match ops.toList with
    | o :: rest => (match putRun m e o.dst v o.pos s (runOps p m (callT p self) ops.toList rest) with | .ok (e, s) => .ok ⟨.normal, e, d, s⟩ | .bad w => .bad w)
    | [] => .bad "head")
  | _, _, _, _ => .bad "head"
noncomputable def amO : Option VO → Bool
  | some o => (match o with | .amap _ _ _ => true | .pick _ => true | _ => false)
  | none => false
/-- Is some map ranged over? -/
noncomputable def amV : En (Option VO) → Bool := fun t => En.rec (motive := fun _ => Bool) (fun v => amO v) (fun _ _ a b => match a with | true => true | false => b) t
/-- Where the first frame knows a slot, the second has the same there. -/
noncomputable def sameE (m : Fm) (e e' : E) (n : Nat) : Bool :=
  Nat.rec (motive := fun _ => Bool) true (fun x ih => match seeE m e x with
    | .any => ih
    | t => match eqF t (seeE m e' x) with | true => ih | false => false) n
noncomputable def sameD : List Nat → List Nat → Bool
  | [], [] => true
  | a :: r, b :: q => match Nat.beq a b with | true => sameD r q | false => false
  | _, _ => false
/-- One round of a range over a map, from what holds at each: is the entry gone, and the accumulated. -/
noncomputable def oneRound (p : Pr) (self : CodeRun) (m : Fm) (ro : Option Nat) (b : Code) (e : E) (d : List Nat) (s : S) (r mp : Nat) (es : List Ent) (j : Nat) (k v : T) (a : Option Tmp) (x : Bool) : Option (Bool × Bool) :=
  match runHead p self m ro (.tup [.bool true, k, v]) b (setAcc m a x e) d (setQ (setQ ⟨s.V, s.nx, 1000000000⟩ mp (.amap es j false)) r (.pick mp)) with
  | .ok ⟨.normal, e', d', s'⟩ => match Nat.ble s.nx s'.low && sameE m e e' m.n && sameD d d', s'.at mp, getAcc m a e' with
    | true, some (.amap _ _ del), some y => some (del, y)
    | _, _, _ => none
  | _ => none
/-- The round once more, from the other truth value, if one is accumulated. -/
noncomputable def secondRound (p : Pr) (self : CodeRun) (m : Fm) (ro : Option Nat) (b : Code) (e : E) (d : List Nat) (s : S) (r mp : Nat) (es : List Ent) (j : Nat) (k v : T) (a : Option Tmp) (y : Bool × Bool) : Option (Bool × Bool) :=
  match a with
  | none => some y
  | some t => oneRound p self m ro b e d s r mp es j k v (some t) true
noncomputable def rounds (p : Pr) (self : CodeRun) (m : Fm) (ro : Option Nat) (b : Code) (e : E) (d : List Nat) (s : S) (r mp : Nat) (a : Option Tmp) (all : List Ent) : List Ent → Nat → Option (List Ent × Bool)
  | [], _ => some ([], false)
  | (k, v, w) :: es, j => match oneRound p self m ro b e d s r mp all j k v a false with
    | some (del, y) => match secondRound p self m ro b e d s r mp all j k v a (del, y) with
      | some (del', y') => match del == del' && (y' || a.isNone), rounds p self m ro b e d s r mp a all es (Nat.succ j) with
        | true, some (l, z) => some (match del with | true => l | false => (k, v, w) :: l, y || z)
        | _, _ => none
      | none => none
    | none => none
noncomputable def accFree (a : Option Tmp) (q : Tmp) : Bool := match a with | some t => (match Nat.beq t q with | true => false | false => true) | none => true
noncomputable def mapLoop (p : Pr) (self : CodeRun) (m : Fm) (ro : Option Nat) (b : Code) (e : E) (d : List Nat) (s : S) (q : Tmp) (r mp since last : Nat) (es : List Ent) (clock : Nat) : Res Out :=
  match accOf m e b with
  | some a => match getAcc m a e, seeE m (forget m (dsts b) e) q, !amV s.V && Nat.ble since last && Nat.ble since clock && es.all (fun x => Nat.blt x.2.2 since) && accFree a q with
    | some x0, .ptr _ _, true => match rounds p self m ro b (forget m (dsts b) e) d s r mp a es es 0 with
      | some (l, y) => match runHead p self m ro (.tup [.bool false]) b (setAcc m a (x0 || y) (forget m (dsts b) e)) d (setV (putO s mp (.map l clock)) r none s.nx (minN (minN s.low mp) r)) with
        | .ok ⟨.normal, _, _, _⟩ => .bad "the range goes on"
        | x => x
      | none => .bad "rounds"
    | _, _, _ => .bad "accumulator"
  | none => .bad "accumulators"
/-- A loop, round by round. -/
noncomputable def loopN (self : CodeRun) (m : Fm) (ro : Option Nat) (b : Code) (n : Nat) : E → List Nat → S → Res Out :=
  Nat.rec (motive := fun _ => E → List Nat → S → Res Out) (fun _ _ _ => .bad "rounds") (fun _ ih e d s => match self m ro b e d s with
    | .ok ⟨.normal, e, d, s⟩ => ih e d s
    | r => r) n
noncomputable def doLoop (self : CodeRun) (m : Fm) (ro : Option Nat) (b : Code) (e : E) (d : List Nat) (s : S) : Res Out := loopN self m ro b 1000000 e d s
/-! ranges over maps, in every order -/
/-- The entries that a range over a map may give next. -/
noncomputable def candsT (s : S) (r : Nat) : Option (List Ent × Nat × Nat × List Nat × Nat) :=
  match s.at r with
  | some (.miter mp since seen last) => (match s.at mp with
    | some (.map es clock) => (match Nat.ble since last && (Nat.ble since clock && es.all (fun x => Nat.blt x.2.2 since)) with
      | true => some (es.filter (fun e => !(seen.any fun b => Nat.beq b e.2.2)), mp, since, seen, clock)
      | false => none)
    | _ => none)
  | some (.mset mp since seen _) => (match s.at mp with
    | some (.map es clock) => (match Nat.ble since clock && es.all (fun x => Nat.blt x.2.2 since) with
      | true => some (es.filter (fun e => !(seen.any fun b => Nat.beq b e.2.2)), mp, since, seen, clock)
      | false => none)
    | _ => none)
  | _ => none
noncomputable def headsT (p : Pr) (self : CodeRun) (m : Fm) (ro : Option Nat) (b : Code) (e : E) (d : List Nat) (s : S) (r mp since : Nat) (seen : List Nat) (clock : Nat) : List Ent → Res (List Out)
  | [] => .ok []
  | c :: cs => match runHead p self m ro (.tup [.bool true, c.1, c.2.1]) b e d (putO s r (.mset mp since (seen ++ [c.2.2]) clock)) with
    | .ok o => (match headsT p self m ro b e d s r mp since seen clock cs with | .ok l => .ok (o :: l) | .bad w => .bad w)
    | .bad w => .bad w
/-- One round, whichever entry comes. -/
noncomputable def stepM (p : Pr) (self : CodeRun) (m : Fm) (ro : Option Nat) (q : Tmp) (b : Code) (e : E) (d : List Nat) (s : S) : Res (List Out) :=
  match seeE m e q with
  | .ptr r 0 => (match candsT s r with
    | some (cs, mp, since, seen, clock) => (match cs with
      | [] => (match runHead p self m ro (.tup [.bool false]) b e d s with | .ok o => .ok [o] | .bad w => .bad w)
      | c :: cs => headsT p self m ro b e d s r mp since seen clock (c :: cs))
    | none => .bad "range over a map")
  | _ => .bad "range over a map"
noncomputable def outsAll (f : Out → Res (List Out)) : List Out → Res (List Out)
  | [] => .ok []
  | o :: L => match f o with
    | .ok l => (match outsAll f L with | .ok r => .ok (l ++ r) | .bad w => .bad w)
    | .bad w => .bad w
noncomputable def isNorm (o : Out) : Bool := match o.x with | .normal => true | _ => false
noncomputable def ordGo (f : Out → Res (List Out)) (mg : List Out → Option (List Out)) : Nat → List Out → Res (List Out)
  | 0, _ => .bad "orders"
  | n + 1, L => match outsAll f L with
    | .ok outs => (match mg (outs.filter isNorm) with
      | some [] => .ok (outs.filter fun o => !(isNorm o))
      | some N => (match ordGo f mg n N with | .ok Y => .ok ((outs.filter fun o => !(isNorm o)) ++ Y) | .bad w => .bad w)
      | none => .bad "orders differ")
    | .bad w => .bad w
noncomputable def eqEnt (x y : Ent) : Bool := eqF x.1 y.1 && (eqF x.2.1 y.2.1 && Nat.beq x.2.2 y.2.2)
noncomputable def eqEnts : List Ent → List Ent → Bool
  | [], [] => true
  | x :: a, y :: b => eqEnt x y && eqEnts a b
  | _, _ => false
noncomputable def eqFs : List T → List T → Bool
  | [], [] => true
  | x :: a, y :: b => eqF x y && eqFs a b
  | _, _ => false
noncomputable def eqBB : Bool → Bool → Bool | true, true => true | false, false => true | _, _ => false
noncomputable def eqLL : List (List T) → List (List T) → Bool
  | [], [] => true
  | x :: a, y :: b => eqFs x y && eqLL a b
  | _, _ => false
noncomputable def eqVO : VO → VO → Bool
  | .bag a t, .bag b u => Nat.beq t u && eqLL a b
  | .row a t x, .row b u y => Nat.beq t u && (eqBB x y && eqFs a b)
  | .ro a t, .ro b u => Nat.beq t u && eqFs a b
  | .map a c, .map b d => Nat.beq c d && eqEnts a b
  | .siter a i, .siter b j => Nat.beq i j && beqS a b
  | .miter a b c d, .miter a' b' c' d' => Nat.beq a a' && (Nat.beq b b' && (Nat.beq d d' && sameD c c'))
  | .mset a b c d, .mset a' b' c' d' => Nat.beq a a' && (Nat.beq b b' && (Nat.beq d d' && sameD c c'))
  | .defs a, .defs b => eqBB a b
  | _, _ => false
noncomputable def eqTT : List T → List T → Bool
  | [], [] => true
  | x :: a, y :: b => eqT x y && eqTT a b
  | _, _ => false
/-- Like eqF, functions with compound values too. -/
noncomputable def eqV : T → T → Bool
  | .func f a b, .func g c d => eqFn f g && (eqTT a c && eqTT b d)
  | a, b => eqF a b
/-- What all of several outcomes have at a block, in a slot. -/
noncomputable def meetB (v : VO) : List Out → Nat → Option VO
  | [], _ => some v
  | o :: L, b => match o.s.at b with
    | some w => (match eqVO w v with | true => meetB v L b | false => none)
    | none => none
noncomputable def meetV (o : Out) (L : List Out) : Nat → Nat → En (Option VO) → En (Option VO)
  | 0, _, V => V
  | n + 1, b, V => ite (Nat.ble b 16383) (match o.s.at b with
      | some v => (match meetB v L b with
        | some v => En.setK (Pa.of 14 b) (some v) V fun V => meetV o L n (Nat.succ b) V
        | none => En.setK (Pa.of 14 b) none V fun V => meetV o L n (Nat.succ b) V)
      | none => En.setK (Pa.of 14 b) none V fun V => meetV o L n (Nat.succ b) V) V
noncomputable def meetT (m : Fm) (v : T) : List Out → Nat → Bool
  | [], _ => true
  | o :: L, t => match eqV v (seeE m o.e t) with | true => meetT m v L t | false => false
noncomputable def meetE (m : Fm) (o : Out) (L : List Out) : Nat → E → E
  | 0, acc => acc
  | n + 1, acc => force (seeE m o.e n) fun v => match meetT m v L n with
    | true => En.setK (Pa.of m.dp n) v acc fun acc => meetE m o L n acc
    | false => meetE m o L n acc
noncomputable def eqX : Ex → Ex → Bool
  | .normal, .normal => true
  | .ret, .ret => true
  | .exit i, .exit j => Nat.beq i j
  | .goto i, .goto j => Nat.beq i j
  | _, _ => false
noncomputable def lowOf : List Out → Nat → Nat
  | [], a => a
  | o :: L, a => lowOf L (minN o.s.low a)
noncomputable def nxOf : List Out → Nat → Nat
  | [], a => a
  | o :: L, a => nxOf L (maxN o.s.nx a)
/-- Several outcomes of what began at s are taken together: what they all have. -/
noncomputable def meetO (m : Fm) (s : S) (o : Out) (L : List Out) : Option Out :=
  forceN (lowOf (o :: L) s.low) fun lo => forceN (nxOf (o :: L) s.nx) fun hi => forceN (minN lo s.nx) fun l1 =>
    match Nat.ble (Nat.sub hi l1) 4000 && L.all (fun y => eqX y.x o.x && sameD y.d o.d) with
    | true => some ⟨o.x, meetE m o L m.n (.leaf .any), o.d, ⟨meetV o L (Nat.sub hi l1) l1 s.V, hi, lo⟩⟩
    | false => none
/-! blocks that were made are numbered anew, as they are found -/
noncomputable def refs1 : T → List Nat
  | .ptr b _ => [b]
  | .slice b _ _ _ => [b]
  | .own b _ => [b]
  | .sub b _ _ => [b]
  | .map b => [b]
  | _ => []
noncomputable def refsL : List T → List Nat
  | [] => []
  | t :: l => refs1 t ++ refsL l
noncomputable def refs2 : T → List Nat
  | .agg l => refsL l
  | .tup l => refsL l
  | t => refs1 t
noncomputable def refs2L : List T → List Nat
  | [] => []
  | t :: l => refs2 t ++ refs2L l
noncomputable def refs3 : T → List Nat
  | .func f a b => (match f with | .yield l => [l] | .func _ => refs2L a ++ refs2L b | _ => [])
  | t => refs2 t
noncomputable def refs3L : List T → List Nat
  | [] => []
  | t :: l => refs3 t ++ refs3L l
noncomputable def refsEs : List Ent → List Nat
  | [] => []
  | x :: l => refs3 x.1 ++ (refs3 x.2.1 ++ refsEs l)
noncomputable def refsO : VO → List Nat
  | .row cs _ _ => refs3L cs
  | .ro cs _ => refs3L cs
  | .map es _ => refsEs es
  | .miter mp _ _ _ => [mp]
  | .mset mp _ _ _ => [mp]
  | .mcnt mp _ _ _ => [mp]
  | .bag els _ => refs3L els.flatten
  | _ => []
noncomputable def disc (s : S) (base : Nat) : Nat → List Nat → List Nat → List Nat
  | 0, _, acc => acc
  | _ + 1, [], acc => acc
  | n + 1, b :: w, acc => match Nat.blt b base || hasN b acc with
    | true => disc s base n w acc
    | false => disc s base n ((match s.at b with | some o => refsO o | none => []) ++ w) (acc ++ [b])
noncomputable def idxN (b : Nat) : List Nat → Nat → Option Nat
  | [], _ => none
  | c :: l, k => match Nat.beq b c with | true => some k | false => idxN b l (Nat.succ k)
noncomputable def rho (base : Nat) (L : List Nat) (b : Nat) : Option Nat := match Nat.blt b base with | true => some b | false => idxN b L base
noncomputable def ren1 (ρ : Nat → Option Nat) : T → T
  | .bool b => .bool b
  | .int k n => .int k n
  | .str s => .str s
  | .nptr => .nptr
  | .ptr b o => (match ρ b with | some c => .ptr c o | none => .any)
  | .nslice => .nslice
  | .slice b o n c => (match ρ b with | some d => .slice d o n c | none => .any)
  | .own b n => (match ρ b with | some c => .own c n | none => .any)
  | .sub b o n => (match ρ b with | some c => .sub c o n | none => .any)
  | .empty => .empty
  | .nmap => .nmap
  | .map b => (match ρ b with | some c => .map c | none => .any)
  | .nfunc => .nfunc
  | .niface => .niface
  | _ => .any
noncomputable def ren1L (ρ : Nat → Option Nat) : List T → List T
  | [] => []
  | t :: l => ren1 ρ t :: ren1L ρ l
noncomputable def ren2 (ρ : Nat → Option Nat) : T → T
  | .agg l => .agg (ren1L ρ l)
  | .tup l => .tup (ren1L ρ l)
  | t => ren1 ρ t
noncomputable def ren2L (ρ : Nat → Option Nat) : List T → List T
  | [] => []
  | t :: l => ren2 ρ t :: ren2L ρ l
noncomputable def ren3 (ρ : Nat → Option Nat) : T → T
  | .func f a b => (match f with
    | .func g => .func (.func g) (ren2L ρ a) (ren2L ρ b)
    | .yield l => (match ρ l with | some c => .func (.yield c) a b | none => .any)
    | _ => .any)
  | t => ren2 ρ t
noncomputable def ren3L (ρ : Nat → Option Nat) : List T → List T
  | [] => []
  | t :: l => force (ren3 ρ t) fun t => t :: ren3L ρ l
noncomputable def renEs (ρ : Nat → Option Nat) : List Ent → List Ent
  | [] => []
  | x :: l => (ren3 ρ x.1, ren3 ρ x.2.1, x.2.2) :: renEs ρ l
noncomputable def renO (ρ : Nat → Option Nat) : VO → Option VO
  | .row cs ct tl => some (.row (ren3L ρ cs) ct tl)
  | .ro cs ct => some (.ro (ren3L ρ cs) ct)
  | .map es c => some (.map (renEs ρ es) c)
  | .siter a i => some (.siter a i)
  | .bag els ct => some (.bag (els.map (ren3L ρ)) ct)
  | .miter mp a b c => (match ρ mp with | some q => some (.miter q a b c) | none => none)
  | .mset mp a b c => (match ρ mp with | some q => some (.mset q a b c) | none => none)
  | .mcnt mp a b c => (match ρ mp with | some q => some (.mcnt q a b c) | none => none)
  | _ => none
noncomputable def renE (m : Fm) (ρ : Nat → Option Nat) (fg : List Nat) (e : E) : Nat → E → E
  | 0, acc => acc
  | n + 1, acc => match hasN n fg with
    | true => renE m ρ fg e n acc
    | false => force (ren3 ρ (seeE m e n)) fun v => En.setK (Pa.of m.dp n) v acc fun acc => renE m ρ fg e n acc
noncomputable def rootsE (m : Fm) (fg : List Nat) (e : E) : Nat → Nat → List Nat
  | 0, _ => []
  | k + 1, t => match hasN t fg with
    | true => rootsE m fg e k (Nat.succ t)
    | false => refs3 (seeE m e t) ++ rootsE m fg e k (Nat.succ t)
noncomputable def rootsV (s : S) : Nat → Nat → List Nat
  | 0, _ => []
  | k + 1, b => (match s.at b with | some o => refsO o | none => []) ++ rootsV s k (Nat.succ b)
noncomputable def renAt (ρ : Nat → Option Nat) (s : S) (b : Nat) : Option VO := match s.at b with | some o => renO ρ o | none => none
noncomputable def renV (ρ : Nat → Option Nat) (s : S) : Nat → Nat → En (Option VO) → En (Option VO)
  | 0, _, V => V
  | n + 1, b, V => ite (Nat.ble b 16383) (match renAt ρ s b with
      | some v => En.setK (Pa.of 14 b) (some v) V fun V => renV ρ s n (Nat.succ b) V
      | none => En.setK (Pa.of 14 b) none V fun V => renV ρ s n (Nat.succ b) V) V
noncomputable def renN (ρ : Nat → Option Nat) (s : S) : List Nat → Nat → En (Option VO) → En (Option VO)
  | [], _, V => V
  | b :: L, k, V => ite (Nat.ble k 16383) (match renAt ρ s b with
      | some v => En.setK (Pa.of 14 k) (some v) V fun V => renN ρ s L (Nat.succ k) V
      | none => En.setK (Pa.of 14 k) none V fun V => renN ρ s L (Nat.succ k) V) V
noncomputable def forceL {β : Type} : List Nat → (List Nat → β) → β
  | [], k => k []
  | a :: l, k => forceN a fun a => forceL l fun l => k (a :: l)
noncomputable def nodupB : List Nat → Bool
  | [] => true
  | a :: l => !(hasN a l) && nodupB l
/-- Blocks that were made since s are numbered anew; some slots are forgotten. -/
noncomputable def renOut (m : Fm) (s : S) (fg : List Nat) (o : Out) : Out :=
  match o.d with
  | [] => forceN (minN o.s.low s.nx) fun lo => match Nat.ble (Nat.sub s.nx lo) 4000 with
    | true => forceL (disc o.s s.nx 4000 (rootsE m fg o.e m.n 0 ++ rootsV o.s (Nat.sub s.nx lo) lo) []) fun L => match nodupB L && L.all (fun b => Nat.ble s.nx b) with
      | true => forceN (s.nx + L.length) fun nx => ⟨o.x, renE m (rho s.nx L) fg o.e m.n (.leaf .any), [], ⟨renN (rho s.nx L) o.s L s.nx (renV (rho s.nx L) o.s (Nat.sub s.nx lo) lo s.V), nx, o.s.low⟩⟩
      | false => o
    | false => o
  | _ => o
/-- The slots that a code writes without assigning them. -/
noncomputable def tempsOf (b : Code) : List Nat := (dsts b).filter fun t => !(hasN t (asgs b))
noncomputable def insN (x : Nat) : List Nat → List Nat
  | [] => [x]
  | y :: l => match Nat.ble x y with | true => x :: y :: l | false => y :: insN x l
noncomputable def sortN : List Nat → List Nat
  | [] => []
  | x :: l => insN x (sortN l)
noncomputable def canonL (since : Nat) (l : List Nat) : List Nat := sortN (l.filter fun w => Nat.blt w since) ++ [since]
noncomputable def canonS (s : S) (r : Nat) : S :=
  match s.at r with
  | some (.mset mp since seen _) => (match Nat.blt 0 since with | true => setQ s r (.mset mp since (canonL since seen) 0) | false => s)
  | _ => s
noncomputable def seenAt (s : S) (r : Nat) : List Nat := match s.at r with | some (.mset _ _ seen _) => seen | _ => []
/-- States in which a range has given the same entries are taken together. -/
noncomputable def mergeL (m : Fm) (s : S) (r : Nat) : Nat → List Out → Option (List Out)
  | _, [] => some []
  | 0, _ :: _ => none
  | k + 1, o :: L => match meetO m s o (L.filter fun y => sameD (seenAt y.s r) (seenAt o.s r)), mergeL m s r k (L.filter fun y => !(sameD (seenAt y.s r) (seenAt o.s r))) with
    | some J, some N => some (J :: N)
    | _, _ => none
noncomputable def canonO (r : Nat) (o : Out) : Out := ⟨o.x, o.e, o.d, canonS o.s r⟩
noncomputable def mergeD (m : Fm) (s : S) (fg : List Nat) (r : Nat) (L : List Out) : Option (List Out) := mergeL m s r 1000 (L.map fun o => renOut m s fg (canonO r o))
noncomputable def sBig (s : S) : S := ⟨s.V, s.nx, 1000000000⟩
noncomputable def fewC (s : S) (r : Nat) : Bool := match candsT s r with | some (cs, _) => Nat.ble cs.length 6 | none => false
noncomputable def dpLoop (p : Pr) (self : CodeRun) (m : Fm) (ro : Option Nat) (b : Code) (e : E) (d : List Nat) (s : S) (q : Tmp) (r : Nat) : Res Out :=
  match amV s.V || !(fewC s r) with
  | true => .bad "ranged over"
  | false => match ordGo (fun o => stepM p self m ro q b o.e o.d o.s) (mergeD m (sBig s) (tempsOf b) r) 1000 [⟨.normal, e, d, sBig s⟩] with
    | .ok Y => (match Y.map (renOut m (sBig s) (tempsOf b)) with
      | o :: L => (match meetO m (sBig s) o L with
        | some J => sFix ⟨J.s.V, J.s.nx, minN J.s.low s.low⟩ fun s => .ok ⟨J.x, J.e, J.d, s⟩
        | none => .bad "outcomes differ")
      | [] => .bad "no outcome")
    | .bad w => .bad w
/-! loops that search: a round changes nothing, or the loop ends -/
noncomputable def freeX : Code → List Nat → Bool
  | .seq a b, l => freeX a l || freeX b l
  | .cond _ a b, l => freeX a l || freeX b l
  | .block i b, l => freeX b (i :: l)
  | .exit i, l => !(hasN i l)
  | .ret, _ => true
  | .loop b, l => freeX b l
  | .scope b, l => freeX b l
  | _, _ => false
/-- May a round, behind the loop's head, end the loop? -/
noncomputable def searches : Code → Bool
  | .seq (.region _ _ _) (.seq _ b) => freeX b []
  | _ => false
noncomputable def searchR (p : Pr) (self : CodeRun) (m : Fm) (ro : Option Nat) (b : Code) (e : E) (d : List Nat) (s : S) (r mp since clock : Nat) : List Ent → Res (List Out)
  | [] => .ok []
  | c :: cs => match runHead p self m ro (.tup [.bool true, c.1, c.2.1]) b e d (setQ s r (.mlast mp since c.2.2 clock)) with
    | .ok o => (match isNorm o with
      | true => (match Nat.ble s.nx o.s.low && (sameE m e o.e m.n && sameD d o.d) with
        | true => searchR p self m ro b e d s r mp since clock cs
        | false => .bad "a round changes something")
      | false => (match searchR p self m ro b e d s r mp since clock cs with | .ok X => .ok (o :: X) | .bad w => .bad w))
    | .bad w => .bad w
noncomputable def lowR (r : Nat) (o : Out) : Out := ⟨o.x, o.e, o.d, ⟨o.s.V, o.s.nx, minN o.s.low r⟩⟩
noncomputable def searchL (p : Pr) (self : CodeRun) (m : Fm) (ro : Option Nat) (b : Code) (e : E) (d : List Nat) (s : S) (r : Nat) : Res (List Out) :=
  match candsT s r with
  | some (cs, mp, since, _, clock) => (match Nat.beq mp r with
    | true => .bad "map"
    | false => (match searchR p self m ro b (forget m (dsts b) e) d (sBig s) r mp since clock cs with
      | .ok X => (match X with
        | _ :: _ => .ok (X.map (lowR r))
        | [] => (match runHead p self m ro (.tup [.bool false]) b (forget m (dsts b) e) d (setV (sBig s) r none s.nx 1000000000) with
          | .ok o => (match isNorm o with | true => .bad "the range goes on" | false => .ok [lowR r o])
          | .bad w => .bad w))
      | .bad w => .bad w))
  | none => .bad "range over a map"
noncomputable def searchO (p : Pr) (self : CodeRun) (m : Fm) (ro : Option Nat) (b : Code) (e : E) (d : List Nat) (s : S) (r : Nat) : Res Out :=
  match amV s.V with
  | true => .bad "ranged over"
  | false => match searchL p self m ro b e d s r with
    | .ok Y => (match Y.map (renOut m (sBig s) (tempsOf b)) with
      | o :: L => (match meetO m (sBig s) o L with
        | some J => sFix ⟨J.s.V, J.s.nx, minN J.s.low s.low⟩ fun s => .ok ⟨J.x, J.e, J.d, s⟩
        | none => .bad "outcomes differ")
      | [] => .bad "no outcome")
    | .bad w => .bad w
noncomputable def searchA (p : Pr) (self : CodeRun) (m : Fm) (ro : Option Nat) (b : Code) (e : E) (d : List Nat) (s : S) (q : Tmp) (r : Nat) : Res Out :=
  match searches b with
  | true => (match seeE m (forget m (dsts b) e) q with
    | .ptr a 0 => (match Nat.beq a r with | true => searchO p self m ro b e d s r | false => .bad "no search")
    | _ => .bad "no search")
  | false => .bad "no search"
noncomputable def isApp (o : Oper) : Bool := match o.op with | .call c => (match c.callee with | .builtin .append => true | _ => false) | _ => false
noncomputable def hasApp : Code → Bool
  | .seq a b => hasApp a || hasApp b
  | .cond _ a b => hasApp a || hasApp b
  | .block _ b => hasApp b
  | .region _ ops _ => ops.toList.any isApp
  | .loop b => hasApp b
  | .scope b => hasApp b
  | _ => false
/-- A range over a map in which something is appended. -/
noncomputable def ordBody : Code → Option (Nat × Code × Tmp)
  | .block i (.loop b) => (match headNext b with | some q => (match hasApp b with | true => some (i, b, q) | false => none) | none => none)
  | _ => none
noncomputable def manyC (m : Fm) (e : E) (s : S) (q : Tmp) : Bool := match seeE m e q with | .ptr r 0 => (match candsT s r with | some (_ :: _ :: _, _) => fewC s r | _ => false) | _ => false
noncomputable def blockO (i : Nat) (o : Out) : Out := match o.x with | .exit j => (match Nat.beq j i with | true => ⟨.normal, o.e, o.d, o.s⟩ | false => o) | _ => o
noncomputable def thenAll (self : CodeRun) (m : Fm) (ro : Option Nat) (c : Code) : List Out → Res (List Out)
  | [] => .ok []
  | o :: L => match o.x with
    | .normal => (match self m ro c o.e o.d o.s with
      | .ok y => (match y.x with
        | .normal => (match thenAll self m ro c L with | .ok r => .ok (y :: r) | .bad w => .bad w)
        | _ => .bad "ends")
      | .bad w => .bad w)
    | _ => .bad "ends"
/-! a list to which a range over a map appends is a bag -/
noncomputable def ltT : T → T → Bool
  | .int _ a, .int _ b => ltI a b
  | _, _ => false
noncomputable def ltL : List T → List T → Bool
  | [], _ => false
  | _ :: _, [] => false
  | x :: a, y :: b => match ltT x y with | true => true | false => (match ltT y x with | true => false | false => ltL a b)
noncomputable def insB (x : List T) : List (List T) → List (List T)
  | [] => [x]
  | y :: l => match ltL y x with | true => y :: insB x l | false => x :: y :: l
noncomputable def sortB : List (List T) → List (List T)
  | [] => []
  | x :: l => insB x (sortB l)
noncomputable def chunks (k : Nat) : Nat → List T → List (List T)
  | 0, _ => []
  | n + 1, l => l.take k :: chunks k n (l.drop k)
noncomputable def asBag (v : VO) (n : Nat) : Option VO :=
  match v with
  | .row cs ct true => (match Nat.blt 0 n && Nat.beq (n * Nat.div cs.length n) cs.length with | true => some (.bag (sortB (chunks (Nat.div cs.length n) n cs)) ct) | false => none)
  | .bag els ct => some (.bag (sortB els) ct)
  | _ => none
noncomputable def bagO (m : Fm) : List Tmp → Out → Out
  | [], o => o
  | t :: ts, o => match seeE m o.e t with
    | .own b n => (match o.s.at b with
      | some v => (match asBag v n with | some w => sFix (setQ o.s b w) fun s => bagO m ts ⟨o.x, o.e, o.d, s⟩ | none => bagO m ts o)
      | none => bagO m ts o)
    | _ => bagO m ts o
noncomputable def mergeC (m : Fm) (s : S) (lb : Code) (r : Nat) (L : List Out) : Option (List Out) := mergeL m s r 1000 (L.map fun o => renOut m s (tempsOf lb) (bagO m (asgs lb) (canonO r o)))
/-- A range over a map in which something is appended, and what follows it: in every order. -/
noncomputable def ordSeq (p : Pr) (self : CodeRun) (m : Fm) (ro : Option Nat) (mg : List Out → Option (List Out)) (i : Nat) (lb : Code) (q : Tmp) (c rest : Code) (e : E) (d : List Nat) (s : S) : Res Out :=
  match ordGo (fun o => stepM p self m ro q lb o.e o.d o.s) mg 1000 [⟨.normal, e, d, sBig s⟩] with
  | .ok Y => (match thenAll self m ro c (Y.map (blockO i)) with
    | .ok Z => (match Z.map (renOut m (sBig s) (tempsOf lb)) with
     | o :: L => (match meetO m (sBig s) o L with
      | some J => (match J.x with
        | .normal => sFix ⟨J.s.V, J.s.nx, minN J.s.low s.low⟩ fun s => self m ro rest J.e J.d s
        | _ => .bad "ends")
      | none => .bad "outcomes differ")
     | [] => .bad "no outcome")
    | .bad w => .bad w)
  | .bad w => .bad w
noncomputable def few3 (s : S) (r : Nat) : Bool := match candsT s r with | some (cs, _) => Nat.ble cs.length 3 | none => false
noncomputable def doSeqAny (p : Pr) (self : CodeRun) (m : Fm) (ro : Option Nat) (a b : Code) (e : E) (d : List Nat) (s : S) : Res Out :=
  match a, b with
  | .seq a1 a2, .seq c rest => (match ordBody a2 with
    | some (i, lb, q) => (match self m ro a1 e d s with
      | .ok ⟨.normal, e1, d1, s1⟩ => (match manyC m e1 s1 q && !amV s1.V with
        | true => (match seeE m e1 q with
          | .ptr r _ => (match ordSeq p self m ro (mergeC m (sBig s1) lb r) i lb q c rest e1 d1 s1 with
            | .ok o => .ok o
            | .bad w => (match few3 s1 r with | true => ordSeq p self m ro some i lb q c rest e1 d1 s1 | false => .bad w))
          | _ => ordSeq p self m ro some i lb q c rest e1 d1 s1)
        | false => doSeq self m ro a b e d s)
      | _ => doSeq self m ro a b e d s)
    | none => doSeq self m ro a b e d s)
  | _, _ => doSeq self m ro a b e d s
noncomputable def doLoopAny0 (p : Pr) (self : CodeRun) (m : Fm) (ro : Option Nat) (b : Code) (e : E) (d : List Nat) (s : S) : Res Out :=
  match headNext b with
  | none => doLoop self m ro b e d s
  | some t => match seeE m e t with
    | .ptr r 0 => match s.at r with
      | some (.miter mp since [] last) => (match s.at mp with
        | some (.map es clock) => (match es with | _ :: _ :: _ => (match searchA p self m ro b e d s t r with | .ok o => .ok o | .bad _ => (match mapLoop p self m ro b e d s t r mp since last es clock with | .ok o => .ok o | .bad w => (match dpLoop p self m ro b e d s t r with | .ok o => .ok o | .bad v => .bad (w ++ "/" ++ v)))) | _ => doLoop self m ro b e d s)
        | _ => doLoop self m ro b e d s)
      | _ => doLoop self m ro b e d s
    | _ => doLoop self m ro b e d s
/-! ranges over maps whose entries are not looked at -/
noncomputable def borns : List Ent → List Nat
  | [] => []
  | x :: l => forceN x.2.2 fun w => w :: borns l
/-- The map, how many entries were seen, and all entries' births. -/
noncomputable def cntT (s : S) (r : Nat) : Option (Nat × Nat × Nat × List Nat) :=
  match s.at r with
  | some (.miter mp since [] last) => (match s.at mp with
    | some (.map es clock) => (match Nat.ble since last && (Nat.ble since clock && es.all (fun x => Nat.blt x.2.2 since)) with
      | true => some (mp, since, 0, borns es)
      | false => none)
    | _ => none)
  | some (.mcnt mp since k bs) => (match s.at mp with
    | some (.map es clock) => (match Nat.ble since clock && (es.all (fun x => Nat.blt x.2.2 since) && sameD bs (borns es)) with
      | true => some (mp, since, k, bs)
      | false => none)
    | _ => none)
  | _ => none
noncomputable def stepB (p : Pr) (self : CodeRun) (m : Fm) (ro : Option Nat) (q : Tmp) (b : Code) (e : E) (d : List Nat) (s : S) : Res (List Out) :=
  match seeE m e q with
  | .ptr r 0 => (match cntT s r with
    | some (mp, since, k, bs) => (match Nat.blt k bs.length with
      | true => forceN (Nat.succ k) fun k => (match runHead p self m ro (.tup [.bool true, .any, .any]) b e d (putO s r (.mcnt mp since k bs)) with | .ok o => .ok [o] | .bad w => .bad w)
      | false => (match runHead p self m ro (.tup [.bool false]) b e d s with | .ok o => .ok [o] | .bad w => .bad w))
    | none => .bad "range over a map")
  | _ => .bad "range over a map"
noncomputable def blindLoop (p : Pr) (self : CodeRun) (m : Fm) (ro : Option Nat) (b : Code) (e : E) (d : List Nat) (s : S) (q : Tmp) : Res Out :=
  match ordGo (fun o => stepB p self m ro q b o.e o.d o.s) some 1000 [⟨.normal, e, d, s⟩] with
  | .ok [o] => .ok o
  | .ok _ => .bad "outcomes"
  | .bad w => .bad w
noncomputable def looksAt (t : Tmp) (x : Oper) : Bool := match x.op with
  | .entry (.tmp u) => Nat.beq u t
  | _ => false
noncomputable def looksC (t : Tmp) : Code → Bool
  | .seq a b => looksC t a || looksC t b
  | .cond _ a b => looksC t a || looksC t b
  | .block _ b => looksC t b
  | .region _ ops _ => ops.toList.any (looksAt t)
  | .loop b => looksC t b
  | .scope b => looksC t b
  | .rangeFunc _ _ a b => looksC t a || looksC t b
  | _ => false
/-- Are entries not looked at? -/
noncomputable def blindB (b : Code) : Bool := match headNext b with
  | some q => !(looksC q b)
  | none => false
noncomputable def doLoopAny (p : Pr) (self : CodeRun) (m : Fm) (ro : Option Nat) (b : Code) (e : E) (d : List Nat) (s : S) : Res Out :=
  match headNext b with
  | none => doLoop self m ro b e d s
  | some t => match blindB b with
    | false => doLoopAny0 p self m ro b e d s
    | true => match blindLoop p self m ro b e d s t with
      | .ok o => .ok o
      | .bad _ => doLoopAny0 p self m ro b e d s
noncomputable def doScope (self : CodeRun) (m : Fm) (ro : Option Nat) (b : Code) (e : E) (d : List Nat) (s : S) : Res Out :=
  match self m ro b e d s with
  | .ok ⟨.goto _, _, _, _⟩ => .bad "goto"
  | r => r
noncomputable def doRange (p : Pr) (self : CodeRun) (m : Fm) (ro : Option Nat) (f : Operand) (ps : Array Tmp) (a b : Code) (e : E) (d : List Nat) (s : S) : Res Out :=
  match opd m e f with
  | some g => rangeF p self m ro g ps.toList a b e d s
  | none => .bad "range"
noncomputable def step (p : Pr) (self : CodeRun) : CodeRun := fun m ro c e d s =>
  match c with
  | .skip => .ok ⟨.normal, e, d, s⟩
  | .label _ => .ok ⟨.normal, e, d, s⟩
  | .ret => .ok ⟨.ret, e, d, s⟩
  | .exit i => .ok ⟨.exit i, e, d, s⟩
  | .goto i => .ok ⟨.goto i, e, d, s⟩
  | .seq a b => doSeqAny p self m ro a b e d s
  | .cond x a b => doCond self m ro x a b e d s
  | .block i b => doBlock self m ro i b e d s
  | .region _ ops draw => (match draw with | true => doDraw p self m ops e d s | false => doRegion p self m ops e d s)
  | .loop b => doLoopAny p self m ro b e d s
  | .scope b => doScope self m ro b e d s
  | .rangeFunc f ps a b => doRange p self m ro f ps a b e d s
  | .refuse _ => .bad "refused"
noncomputable def runC (p : Pr) (n : Nat) : CodeRun := Nat.rec (motive := fun _ => CodeRun) (fun _ _ _ _ _ _ => .bad "fuel") (fun _ ih => step p ih) n
noncomputable def run (p : Pr) (n : Nat) (f : FuncId) (args : List T) (s : S) : Res (T × S) := callFn p (runC p n) f args s
noncomputable def s0 : S := ⟨.leaf none, 0, 1000000000⟩
end Go.Run
