/- Texts joined by pack.py: lemmas for YtepaekbjoombpaaGreatDoorFiled. No condition. -/
import Derived.Test.YtepaekbjoombpaaGreatDoorPG1
import Derived.KernelRfl
import Derived.Test.YtepaekbjoombpaaGreatDoorProg
import Derived.Lib.Bytealg
set_option linter.unusedSimpArgs false
set_option linter.unusedVariables false
set_option linter.defProp false
section
namespace Go.Proofs.YtepaekbjoombpaaGreatDoor.Tab
open Go Go.Proofs Go.Eng
theorem sz2:szT Tryz.prog 2=1:=by kernel_rfl
theorem by2:zaD Tryz.prog 2=8:=by kernel_rfl
theorem inf2:(Tryz.prog.info? 2).isSome=true:=by kernel_rfl
theorem agg2:aggT Tryz.prog 2=some false:=by kernel_rfl
theorem zero2:zO Tryz.prog 2=some (.int .i64 0):=by kernel_rfl
theorem sz3:szT Tryz.prog 3=1:=by kernel_rfl
theorem by3:zaD Tryz.prog 3=8:=by kernel_rfl
theorem inf3:(Tryz.prog.info? 3).isSome=true:=by kernel_rfl
theorem agg3:aggT Tryz.prog 3=some false:=by kernel_rfl
theorem zfO:zO Tryz.prog 3=some (.int .i64 0):=by kernel_rfl
theorem sz5:szT Tryz.prog 5=1:=by kernel_rfl
theorem by5:zaD Tryz.prog 5=1:=by kernel_rfl
theorem inf5:(Tryz.prog.info? 5).isSome=true:=by kernel_rfl
theorem agg5:aggT Tryz.prog 5=some false:=by kernel_rfl
theorem zero5:zO Tryz.prog 5=some (.int .u8 0):=by kernel_rfl
theorem sz9:szT Tryz.prog 9=1:=by kernel_rfl
theorem by9:zaD Tryz.prog 9=16:=by kernel_rfl
theorem inf9:(Tryz.prog.info? 9).isSome=true:=by kernel_rfl
theorem agg9:aggT Tryz.prog 9=some false:=by kernel_rfl
theorem zero9:zO Tryz.prog 9=some (.string ByteArray.empty):=by kernel_rfl
theorem sz22:szT Tryz.prog 22=1:=by kernel_rfl
theorem zes:(Tryz.prog.info? 22).isSome=true:=by kernel_rfl
theorem zeK:aggT Tryz.prog 22=some false:=by kernel_rfl
theorem sz24:szT Tryz.prog 24=3:=by kernel_rfl
theorem inf24:(Tryz.prog.info? 24).isSome=true:=by kernel_rfl
theorem agg24:aggT Tryz.prog 24=some true:=by kernel_rfl
theorem zero24:zO Tryz.prog 24=some (.agg #[.int .i64 0,.int .i64 0,.slice none 0 0]):=by kernel_rfl
theorem okf24:za1 Tryz.prog 24=true:=by kernel_rfl
theorem zfv:zab Tryz.prog 24 0=some 0:=by kernel_rfl
theorem fps24_0:zaF Tryz.prog 24 0=some (0,1):=by kernel_rfl
theorem zgS:zab Tryz.prog 24 1=some 1:=by kernel_rfl
theorem fps24_1:zaF Tryz.prog 24 1=some (1,1):=by kernel_rfl
theorem zdl:zab Tryz.prog 24 2=some 2:=by kernel_rfl
theorem sz26:szT Tryz.prog 26=4:=by kernel_rfl
theorem by26:zaD Tryz.prog 26=32:=by kernel_rfl
theorem zcQ:(Tryz.prog.info? 26).isSome=true:=by kernel_rfl
theorem zef:aggT Tryz.prog 26=some true:=by kernel_rfl
theorem zgL:zO Tryz.prog 26=some (.agg #[.int .i64 0,.int .i64 0,.int .i64 0,.int .i64 0]):=by kernel_rfl
theorem okf26:za1 Tryz.prog 26=true:=by kernel_rfl
theorem ze3:zab Tryz.prog 26 0=some 0:=by kernel_rfl
theorem fps26_0:zaF Tryz.prog 26 0=some (0,1):=by kernel_rfl
theorem ze4:zab Tryz.prog 26 1=some 1:=by kernel_rfl
theorem fps26_1:zaF Tryz.prog 26 1=some (1,1):=by kernel_rfl
theorem ze2:zab Tryz.prog 26 2=some 2:=by kernel_rfl
theorem fps26_2:zaF Tryz.prog 26 2=some (2,1):=by kernel_rfl
theorem zgR:zab Tryz.prog 26 3=some 3:=by kernel_rfl
theorem fps26_3:zaF Tryz.prog 26 3=some (3,1):=by kernel_rfl
theorem sz40:szT Tryz.prog 40=1:=by kernel_rfl
theorem by40:zaD Tryz.prog 40=24:=by kernel_rfl
theorem inf40:(Tryz.prog.info? 40).isSome=true:=by kernel_rfl
theorem agg40:aggT Tryz.prog 40=some false:=by kernel_rfl
theorem zero40:zO Tryz.prog 40=some (.slice none 0 0):=by kernel_rfl
theorem sz113:szT Tryz.prog 113=1:=by kernel_rfl
theorem inf113:(Tryz.prog.info? 113).isSome=true:=by kernel_rfl
theorem agg113:aggT Tryz.prog 113=some false:=by kernel_rfl
theorem sz115:szT Tryz.prog 115=2:=by kernel_rfl
theorem inf115:(Tryz.prog.info? 115).isSome=true:=by kernel_rfl
theorem zero115:zO Tryz.prog 115=some (.agg #[.pointer none,.slice none 0 0]):=by kernel_rfl
theorem fo115_0:zab Tryz.prog 115 0=some 0:=by kernel_rfl
theorem bod12:zq Tryz.prog 12=true:=by kernel_rfl
theorem bod17:zq Tryz.prog 17=true:=by kernel_rfl
theorem bod25:zq Tryz.prog 25=true:=by kernel_rfl
theorem bod26:zq Tryz.prog 26=true:=by kernel_rfl
theorem bod27:zq Tryz.prog 27=true:=by kernel_rfl
theorem bod36:zq Tryz.prog 36=true:=by kernel_rfl
theorem bod37:zq Tryz.prog 37=true:=by kernel_rfl
theorem bod38:zq Tryz.prog 38=true:=by kernel_rfl
theorem bod40:zq Tryz.prog 40=true:=by kernel_rfl
theorem bod42:zq Tryz.prog 42=true:=by kernel_rfl
theorem bod46:zq Tryz.prog 46=true:=by kernel_rfl
theorem bod47:zq Tryz.prog 47=true:=by kernel_rfl
theorem bod65:zq Tryz.prog 65=true:=by kernel_rfl
theorem bod66:zq Tryz.prog 66=true:=by kernel_rfl
theorem bod70:zq Tryz.prog 70=true:=by kernel_rfl
theorem bod71:zq Tryz.prog 71=true:=by kernel_rfl
theorem bod74:zq Tryz.prog 74=true:=by kernel_rfl
theorem bod75:zq Tryz.prog 75=true:=by kernel_rfl
theorem bod76:zq Tryz.prog 76=true:=by kernel_rfl
theorem bod77:zq Tryz.prog 77=true:=by kernel_rfl
theorem bod78:zq Tryz.prog 78=true:=by kernel_rfl
theorem bod82:zq Tryz.prog 82=true:=by kernel_rfl
theorem bod83:zq Tryz.prog 83=true:=by kernel_rfl
theorem bod84:zq Tryz.prog 84=true:=by kernel_rfl
theorem bod85:zq Tryz.prog 85=true:=by kernel_rfl
theorem bod86:zq Tryz.prog 86=true:=by kernel_rfl
theorem bod88:zq Tryz.prog 88=true:=by kernel_rfl
theorem bod89:zq Tryz.prog 89=true:=by kernel_rfl
theorem bod92:zq Tryz.prog 92=true:=by kernel_rfl
theorem bod93:zq Tryz.prog 93=true:=by kernel_rfl
theorem bod94:zq Tryz.prog 94=true:=by kernel_rfl
theorem bod112:zq Tryz.prog 112=true:=by kernel_rfl
theorem bod113:zq Tryz.prog 113=true:=by kernel_rfl
theorem bod117:zq Tryz.prog 117=true:=by kernel_rfl
theorem bod121:zq Tryz.prog 121=true:=by kernel_rfl
theorem bod122:zq Tryz.prog 122=true:=by kernel_rfl
theorem bod138:zq Tryz.prog 138=true:=by kernel_rfl
theorem bod150:zq Tryz.prog 150=true:=by kernel_rfl
end Go.Proofs.YtepaekbjoombpaaGreatDoor.Tab
end
section
namespace Go.Proofs.YtepaekbjoombpaaGreatDoor
open Go Go.Proofs Go.Eng Tab
set_option maxRecDepth 100000
set_option linter.unusedSimpArgs false
set_option linter.unusedVariables false
set_option maxHeartbeats 1000000
set_option linter.defProp false
def zl8:=(And.intro @agg3 (And.intro @inf3 @sz3))
def zd5:=(And.intro (And.intro @agg3 @by3) (And.intro @inf3 (And.intro @sz3 @Tryz.underlying40)))
theorem zo0 (n lo hi:Int)(p q:Nat)(h:Heap)(hp:h[p]?=some (.cells #[.int .i64 lo] 3))(hq:h[q]?=some (.cells #[.int .i64 hi] 3)) :
    zb Tryz.prog 113 (#[]++#[.int .i64 n]++#[.pointer (some ⟨p,0,none⟩),.pointer (some ⟨q,0,none⟩)]) h (fun v h'=>v=.bool (decide (n<lo)||decide (hi<n))∧Ext h h'):=by
  simp only [Array.append_empty,Array.empty_append,List.append_toArray,List.cons_append,List.nil_append]
  (refine zh Tryz.func113 rfl bod113 ?_; simp only [Tryz.ntmps113,Tryz.results113,za,zm,splice,Value.cells,Value.oneCell',Nat.reduceAdd,Nat.reduceSub,Nat.reduceMul,Nat.reduceLeDiff,Int.reduceEq,Nat.reduceEqDiff,zl8])
  simp only [hp,hq,za,zm,splice,Value.cells,Value.oneCell',Nat.reduceAdd,Nat.reduceSub,Nat.reduceMul,Nat.reduceLeDiff,Int.reduceEq,Nat.reduceEqDiff,zl8]
  constructor
  · intro h1; simp [h1,Ext.refl]
  · intro h1; simp [h1,Ext.refl]
def idx (p:Int→Bool)(xs:List Int):Int:=match xs.findIdx? p with | some i=>i | none=>-1
theorem idx_none {p:Int→Bool}{xs:List Int}(H:∀ j<xs.length,p (xs.getD j 0)=false):idx p xs=-1:=by
  have:xs.findIdx? p=none:=by
    rw [List.findIdx?_eq_none_iff]
    intro x hx
    obtain⟨j,hj,rfl⟩:=List.getElem_of_mem hx
    have:=H j hj
    simpa [List.getD,List.getElem?_eq_getElem hj] using this
  simp [idx,this]
theorem idx_some {p:Int→Bool}{xs:List Int}{i:Nat}(hi:i<xs.length)(H:∀ j<i,p (xs.getD j 0)=false)(hp:p (xs.getD i 0)=true):idx p xs=i:=by
  have:xs.findIdx? p=some i:=by
    rw [List.findIdx?_eq_some_iff_getElem]
    refine⟨hi,by simpa [List.getD,List.getElem?_eq_getElem hi] using hp,fun j hj=>?_⟩
    have hj':j<xs.length:=by omega
    have:=H j hj
    simpa [List.getD,List.getElem?_eq_getElem hj'] using this
  simp [idx,this]
theorem zkp (a:Option Addr)(n c:Nat)(xs:List Int)(q:FuncId)(caps:Array Value)(p:Int→Bool)(h:Heap)(hs:zM h a n xs)(hl:n≤1000000)
    (hq:∀ x∈xs,∀ h',Ext h h'→zb Tryz.prog q (#[]++#[.int .i64 x]++caps) h' (fun v h''=>v=.bool (p x)∧Ext h' h'')) :
    zb Tryz.prog 138 #[.slice a n c,.func (.func q) #[] caps] h (fun v h'=>v=.int .i64 (idx p xs)∧Ext h h'):=by
  have hn:=hs.len
  (refine zh Tryz.func138 rfl bod138 ?_; simp only [Tryz.ntmps138,Tryz.results138,za,zm,splice,Value.cells,Value.oneCell',Nat.reduceAdd,Nat.reduceSub,Nat.reduceMul,Nat.reduceLeDiff,Int.reduceEq,Nat.reduceEqDiff,zd5])
  refine zX [4,5,8,9,10,11,12,13,14,15,16,17,18] (fun g h'=>∃ i:Nat,i≤n∧g 8=.int .i64 i∧(∀ j<i,p (xs.getD j 0)=false)∧Ext h h') (fun g _=>match g 8 with | .int _ m=>n - m.toNat | _=>0) ?_ ?_
  · exact⟨0,by omega,rfl,fun j hj=>by omega,Ext.refl h⟩
  · intro g h' hI
    obtain⟨i,hin,hg8,hno,hx⟩:=hI
    by_cases hi:i<xs.length
    · simp only [hg8,(hs.ext hx).cell hi,za,Value.cells,Value.oneCell',Nat.reduceAdd,Nat.reduceSub,Nat.reduceMul,Nat.reduceLeDiff,Int.reduceEq,Nat.reduceEqDiff,zd5]
      refine⟨fun hlt=>⟨⟨by omega,by omega⟩,(hs.ext hx).isSome (by omega),?_⟩,fun hge=>absurd hge (by omega)⟩
      have hmem:xs.getD i 0∈xs:=by simp [List.getD,List.getElem?_eq_getElem hi]
      refine zb.mono (hq _ hmem _ hx) ?_
      rintro v h2 ⟨rfl,hx2⟩
      cases hp:p (xs.getD i 0)
      · simp only [za,Value.cells,Value.oneCell',Nat.reduceAdd,Nat.reduceSub,Nat.reduceMul,Nat.reduceLeDiff,Int.reduceEq,Nat.reduceEqDiff,zd5]
        refine⟨by rw [zg]; omega,zD (by kernel_rfl) ⟨i+1,by omega,rfl,?_,hx.trans hx2⟩ ?_⟩
        · intro j hj
          by_cases hji:j=i
          · subst hji; exact hp
          · exact hno j (by omega)
        · show n - ((i:Int)+1).toNat<n - (i:Int).toNat
          omega
      · simp only [za,Value.cells,Value.oneCell',Nat.reduceAdd,Nat.reduceSub,Nat.reduceMul,Nat.reduceLeDiff,Int.reduceEq,Nat.reduceEqDiff,zd5]
        exact⟨by rw [idx_some hi hno hp],hx.trans hx2⟩
    · simp only [hg8,za,Value.cells,Value.oneCell',Nat.reduceAdd,Nat.reduceSub,Nat.reduceMul,Nat.reduceLeDiff,Int.reduceEq,Nat.reduceEqDiff,zd5]
      refine⟨fun hlt=>absurd hlt (by omega),fun hge=>?_⟩
      exact⟨by rw [idx_none fun j hj=>hno j (by omega)],hx⟩
theorem zhm (a:Option Addr)(n c:Nat)(xs:List Int)(q:FuncId)(caps:Array Value)(p:Int→Bool)(h:Heap)(hs:zM h a n xs)(hl:n≤1000000)
    (hq:∀ x∈xs,∀ h',Ext h h'→zb Tryz.prog q (#[]++#[.int .i64 x]++caps) h' (fun v h''=>v=.bool (p x)∧Ext h' h'')) :
    zb Tryz.prog 112 #[.slice a n c,.func (.func q) #[] caps] h (fun v h'=>v=.bool (xs.any p)∧Ext h h'):=by
  (refine zh Tryz.func112 rfl bod112 ?_; simp only [Tryz.ntmps112,Tryz.results112,za,zm,splice,Value.cells,Value.oneCell',Nat.reduceAdd,Nat.reduceSub,Nat.reduceMul,Nat.reduceLeDiff,Int.reduceEq,Nat.reduceEqDiff])
  refine zb.mono (zkp a n c xs q caps p h hs hl hq) ?_
  rintro v h2 ⟨rfl,hx⟩
  simp only [za,Value.cells,Value.oneCell',Nat.reduceAdd,Nat.reduceSub,Nat.reduceMul,Nat.reduceLeDiff,Int.reduceEq,Nat.reduceEqDiff]
  refine⟨?_,hx⟩
  congr 1
  unfold idx
  cases hf:xs.findIdx? p with
  | none=>
    rw [List.findIdx?_eq_none_iff] at hf
    have:xs.any p=false:=by rw [List.any_eq_false]; intro x hx; simp [hf x hx]
    simp [this]
  | some i=>
    rw [List.findIdx?_eq_some_iff_getElem] at hf
    obtain⟨hi,hp,_⟩:=hf
    have:xs.any p=true:=by rw [List.any_eq_true]; exact⟨xs[i],List.getElem_mem hi,hp⟩
    simp [this]
def inB (lo hi:Int)(xs:List Int):Bool:=xs.all fun x=>decide (lo≤x)&&decide (x≤hi)
theorem zci (lo hi:Int)(a:Option Addr)(n c:Nat)(xs:List Int)(h:Heap)(hs:zM h a n xs)(hl:n≤1000000) :
    zb Tryz.prog 71 #[.int .i64 lo,.int .i64 hi,.slice a n c] h (fun v h'=>v=.bool (inB lo hi xs)∧Ext h h'):=by
  (refine zh Tryz.func71 rfl bod71 ?_; simp only [Tryz.ntmps71,Tryz.results71,za,zm,splice,Value.cells,Value.oneCell',Nat.reduceAdd,Nat.reduceSub,Nat.reduceMul,Nat.reduceLeDiff,Int.reduceEq,Nat.reduceEqDiff])
  refine zb.mono (zhm a n c xs 113 _ (fun x=>decide (x<lo)||decide (hi<x)) _ ((hs.push _).push _) hl ?_) ?_
  · intro x _ h' hx
    exact zo0 x lo hi _ _ h' (hx.get (by simp only [zdp,zft,Nat.left_eq_add,Nat.succ_ne_self,if_false,if_true])) (hx.get (by simp only [zdp,zft,if_true]))
  · rintro v h2 ⟨rfl,hx⟩
    simp only [za,Value.cells,Value.oneCell',Nat.reduceAdd,Nat.reduceSub,Nat.reduceMul,Nat.reduceLeDiff,Int.reduceEq,Nat.reduceEqDiff]
    refine⟨?_,hx.of_push.of_push⟩
    congr 1
    simp only [inB,List.not_any_eq_all_not]
    congr 1
    funext x
    by_cases h1:x<lo <;> by_cases h2:hi<x <;> simp [h1,h2,Int.not_lt.1,Int.not_le] <;> omega
end Go.Proofs.YtepaekbjoombpaaGreatDoor
end
section
set_option linter.unusedVariables false
set_option linter.unusedSimpArgs false
namespace Go.Run
open Go Go.Eng
@[reducible] noncomputable def ite {α:Type} (b:Bool) (x y:α):α:=Bool.rec (motive:=fun _=>α) y x b
@[reducible] noncomputable def bnd {α β:Type} (o:Option α) (f:α→Option β):Option β:=Option.rec (motive:=fun _=>Option β) none f o
inductive En (α:Type) where
  | leaf (v:α)
  | node (l r:En α)
inductive Pa where
  | e
  | o (p:Pa)
  | i (p:Pa)
  deriving DecidableEq
noncomputable def Pa.of (d:Nat):Nat→Pa:=
  Nat.rec (motive:=fun _=>Nat→Pa) (fun _=>.e) (fun _ ih n=>ite (Nat.beq (Nat.mod n 2) 0) (.o (ih (Nat.div n 2))) (.i (ih (Nat.div n 2)))) d
noncomputable def En.lf {α:Type}(t:En α):α:=En.rec (motive:=fun _=>α) (fun v=>v) (fun _ _ a _=>a) t
noncomputable def En.get {α:Type}(q:Pa):En α→α:=
  Pa.rec (motive:=fun _=>En α→α) (fun t=>t.lf)
    (fun _ ih t=>En.rec (motive:=fun _=>α) (fun v=>v) (fun l _ _ _=>ih l) t)
    (fun _ ih t=>En.rec (motive:=fun _=>α) (fun v=>v) (fun _ r _ _=>ih r) t) q
noncomputable def En.setK {α β:Type}(q:Pa)(v:α):En α→(En α→β)→β:=
  Pa.rec (motive:=fun _=>En α→(En α→β)→β) (fun _ k=>k (.leaf v))
    (fun _ ih t k=>En.rec (motive:=fun _=>β) (fun w=>ih (.leaf w) fun l=>k (.node l (.leaf w))) (fun l r _ _=>ih l fun l=>k (.node l r)) t)
    (fun _ ih t k=>En.rec (motive:=fun _=>β) (fun w=>ih (.leaf w) fun r=>k (.node (.leaf w) r)) (fun l r _ _=>ih r fun r=>k (.node l r)) t) q
inductive T where
  | bool (b:Bool)
  | int (k:IntKind) (n:Int)
  | str (s:List UInt8)
  | nptr
  | ptr (b o:Nat)
  | nslice
  | slice (b o len cap : Nat)       -- capacity known
  | own (b len : Nat)               -- begins its block; capacity: what the block has
  | sub (b o len : Nat)             -- capacity not known
  | empty                           -- length 0, not nil
  | nmap
  | map (b:Nat)
  | func (fn:Fn) (first caps:List T)
  | nfunc
  | niface
  | agg (cs:List T)
  | tup (vs:List T)
  | any                             -- nothing is known
  deriving Inhabited
inductive VO where
  | row (cs:List T) (ct:TypeId) (tail:Bool)
  | ro (cs : List T) (ct : TypeId)   -- read only: bytes that a string shares
  | map (es:List (T × T × Nat)) (clock:Nat)
  | siter (s:List UInt8) (pos:Nat)
  | miter (m:Nat) (since:Nat) (seen:List Nat) (last:Nat)
  | loop (st:LoopState) (pending:Option Code) (dp n:Nat) (tmps:En T) (params:List Tmp) (assign body:Code) (defers:Nat)
  | defs (open_:Bool)
  | amap (es : List (T × T × Nat)) (j : Nat) (del : Bool)     -- a map that is ranged over: of its entries the one at j
  | pick (m : Nat)                  -- an iterator over it, at that entry
  deriving Inhabited
structure S where
  V:En (Option VO)
  nx:Nat
  low:Nat
structure Fm where
  dp:Nat
  n:Nat
abbrev E:=En T
noncomputable def zae:T:=.tup []
noncomputable def seeE (m:Fm)(e:E)(t:Nat):T:=ite (Nat.ble (Nat.succ t) m.n) (En.get (Pa.of m.dp t) e) zae
noncomputable def S.at (s:S)(b:Nat):Option VO:=ite (Nat.ble b 16383) (En.get (Pa.of 14 b) s.V) none
noncomputable def zaC {β:Type}(n:Nat)(k:Nat→β):β:=Nat.rec (motive:=fun _=>β) (k 0) (fun m _=>k (Nat.succ m)) n
noncomputable def forceI {β:Type}(n:Int)(k:Int→β):β:=Int.rec (motive:=fun _=>β) (fun a=>zaC a fun a=>k (.ofNat a)) (fun a=>zaC a fun a=>k (.negSucc a)) n
noncomputable def force {β:Type}(v:T)(k:T→β):β:=
  match v with
  | .bool b=>Bool.rec (motive:=fun _=>β) (k (.bool false)) (k (.bool true)) b
  | .int q n=>forceI n fun n=>k (.int q n)
  | .ptr b o=>zaC b fun b=>zaC o fun o=>k (.ptr b o)
  | .slice b o n c=>zaC b fun b=>zaC o fun o=>zaC n fun n=>zaC c fun c=>k (.slice b o n c)
  | .own b n=>zaC b fun b=>zaC n fun n=>k (.own b n)
  | v=>k v
inductive D where
  | int (k:IntKind) | bool | string | slice (el:TypeId) | array (n:Nat) (el:TypeId) | strct (fs:List (Nat × TypeId × Nat)) | map (k v:TypeId) | ptr (el:TypeId) | func | iface | other
inductive Sc where
  | i | b | s
structure TI where
  size:Nat
  bytes:Nat
  zero:T
  d:D
  fl:List Sc
noncomputable def toT:Value→Option T
  | .bool b=>some (.bool b)
  | .int k n=>some (.int k n)
  | .string s=>some (.str s.data.toList)
  | .pointer none=>some .nptr
  | .slice none 0 0=>some .nslice
  | .map none=>some .nmap
  | .nilFunc=>some .nfunc
  | .nilIface=>some .niface
  | .func (.func g) a b=>match a.toList,b.toList with | [],[]=>some (.func (.func g) [] []) | _,_=>none
  | _=>none
noncomputable def toT1:Value→Option T
  | .agg cs=>((cs.toList).mapM toT).map .agg
  | .tuple cs=>((cs.toList).mapM toT).map .tup
  | v=>toT v
noncomputable def mkD (P:Program)(t:TypeId):D:=
  match P.underlying t with
  | some (.int k)=>.int k
  | some .bool=>.bool
  | some .string=>.string
  | some (.slice el)=>.slice el
  | some (.array n el)=>.array n el
  | some (.struct fs)=>.strct (fs.toList.map fun f=>(f.offset,f.type,szT P f.type))
  | some (.map k v)=>.map k v
  | some (.pointer el)=>.ptr el
  | some (.func _ _ _)=>.func
  | some (.interface _)=>.iface
  | _=>.other
noncomputable def zjr (P:Program)(t:TypeId):TypeDesc→Bool | .struct _=>za1 P t | _=>true
noncomputable def mkTI (P:Program)(t:TypeId):Option TI:=
  match P.info? t,P.underlying t with
  | some i,some d=>match i.zero.bind toT1,zjr P t d with
    | some z,true=>some ⟨i.size,i.bytes,z,mkD P t,[]⟩
    | _,_=>none
  | _,_=>none
noncomputable def scT (P:Program)(u:TypeId):Option Sc:=match P.underlying u with | some (.int _)=>some .i | some .bool=>some .b | some .string=>some .s | _=>none
noncomputable def flF (P:Program):List Field→Nat→Option (List Sc)
  | [],_=>some []
  | f :: fs, i => match f.name != "_" && Nat.beq f.offset i, scT P f.type, flF P fs (i + 1) with | true, some c, some r => some (c :: r) | _, _, _ => none
noncomputable def flT (P:Program)(t:TypeId):List Sc:=
  match P.stoodInHeld t||P.eqGuardType P.depth t with
  | true=>[]
  | false=>match P.underlying t with
    | some (.struct fs)=>(match flF P fs.toList 0 with | some r=>r | none=>[])
    | some (.array n el)=>(match scT P el,Nat.beq (szT P el) 1 with | some c,true=>List.replicate n c | _,_=>[])
    | _=>[]
structure FI where
  body:Code
  nt:Nat
  res:List ResultVar
noncomputable def mkFI (P:Program)(f:Nat):Option FI:=
  match P.funcs[f]? with
  | some fn=>match fn.body with
    | some c=>match zq P f with | true=>some ⟨c,fn.ntmps,fn.results.toList⟩ | false=>none
    | none=>none
  | none=>none
inductive X where
  | no
  | mnz (el : TypeId)     -- internal/bytealg.MakeNoZero
  | cnt                   -- internal/bytealg.CountString
  | idx                   -- internal/bytealg.IndexByteString
  | cpy (ct : TypeId)     -- (*strings.Builder).copyCheck
  | tru                   -- a function without arguments that is known to return true
structure Pr where
  ty:Nat→Option TI
  fn:Nat→Option FI
  lib:Nat→Nat
  ext:Nat→X
noncomputable def beqI:Int→Int→Bool
  | .ofNat a,.ofNat b=>Nat.beq a b
  | .negSucc a,.negSucc b=>Nat.beq a b
  | _,_=>false
noncomputable def ltI:Int→Int→Bool
  | .ofNat a,.ofNat b=>Nat.blt a b
  | .negSucc a,.negSucc b=>Nat.blt b a
  | .negSucc _,.ofNat _=>true
  | .ofNat _,.negSucc _=>false
noncomputable def leI (a b:Int):Bool:=!ltI b a
noncomputable def inK:IntKind→Int→Bool
  | .i64,.ofNat a=>Nat.ble a 9223372036854775807
  | .i64,.negSucc a=>Nat.ble a 9223372036854775807
  | .u8,.ofNat a=>Nat.ble a 255
  | .i32,.ofNat a=>Nat.ble a 2147483647
  | .i32,.negSucc a=>Nat.ble a 2147483647
  | .u64,.ofNat a=>Nat.ble a 18446744073709551615
  | .u32,.ofNat a=>Nat.ble a 4294967295
  | _,_=>false
noncomputable def beqK:IntKind→IntKind→Bool
  | .i8,.i8=>true | .i16,.i16=>true | .i32,.i32=>true | .i64,.i64=>true | .u8,.u8=>true | .u16,.u16=>true | .u32,.u32=>true | .u64,.u64=>true | _,_=>false
noncomputable def beqS:List UInt8→List UInt8→Bool
  | [],[]=>true
  | a::s,b::t=>match Nat.beq a.toNat b.toNat with | true=>beqS s t | false=>false
  | _,_=>false
noncomputable def cInt (k:IntKind)(n:Int):Option T:=ite (inK k n) (some (.int k n)) none
noncomputable def intOp (op:BinOp)(k:IntKind)(x y:Int):Option T:=
  match op with
  | .add=>cInt k (Int.add x y)
  | .sub=>cInt k (Int.sub x y)
  | .mul=>cInt k (Int.mul x y)
  | .quo=>match beqI y 0 with | true=>none | false=>cInt k (x.tdiv y)
  | .rem=>match beqI y 0 with | true=>none | false=>some (.int k (x.tmod y))
  | .eql=>some (.bool (beqI x y))
  | .neq=>some (.bool (!beqI x y))
  | .lss=>some (.bool (ltI x y))
  | .leq=>some (.bool (leI x y))
  | .gtr=>some (.bool (ltI y x))
  | .geq=>some (.bool (leI y x))
  | .and=>some (.int k (zbG .and k x y))
  | .or=>some (.int k (zbG .or k x y))
  | .xor=>some (.int k (zbG .xor k x y))
  | .andNot=>some (.int k (zbG .andNot k x y))
  | _=>none
noncomputable def shOp (op:BinOp)(k:IntKind)(x y:Int):Option T:=
  match leI 0 y,leI y k.bits with
  | true,true=>match op with
    | .shl=>cInt k (x*2 ^ y.toNat)
    | .shr=>some (.int k (x / 2 ^ y.toNat))
    | _=>none
  | _,_=>none
noncomputable def scEq:Sc→T→T→Option Bool
  | .i,.int k a,.int j b=>match beqK k j with | true=>some (beqI a b) | false=>none
  | .b,.bool a,.bool b=>some (a == b)
  | .s,.str a,.str b=>some (beqS a b)
  | _,_,_=>none
noncomputable def beqF:List Sc→List T→List T→Option Bool
  | [],[],[]=>some true
  | c::cs,a::s,b::t=>match scEq c a b with
    | some true=>beqF cs s t
    | some false=>some false
    | none=>none
  | _,_,_=>none
noncomputable def zbj (ti:TI)(x y:T):Option Bool:=
  match x,y with
  | .agg a,.agg b=>(match ti.fl with | []=>none | c::fl=>beqF (c::fl) a b)
  | _,_=>none
noncomputable def zah (ti:TI)(x y:T):Option Bool:=
  match ti.d with
  | .int _=>scEq .i x y
  | .bool=>scEq .b x y
  | .string=>scEq .s x y
  | .strct _=>zbj ti x y
  | .array _ _=>zbj ti x y
  | _=>none
noncomputable def zgs:T→Option Bool
  | .nslice=>some true | .slice ..=>some false | .own ..=>some false | .sub ..=>some false | .empty=>some false | _=>none
noncomputable def eqOp (ti:TI)(x y:T):Option Bool:=
  match ti.d with
  | .bool=>(match x,y with | .bool a,.bool b=>some (a == b) | _,_=>none)
  | .slice _=>(match y with | .nslice=>zgs x | _=>none)
  | .map _ _=>(match x,y with | .nmap,.nmap=>some true | .map _,.nmap=>some false | _,_=>none)
  | .ptr _=>(match x,y with | .nptr,.nptr=>some true | .ptr _ _,.nptr=>some false | _,_=>none)
  | .func=>(match x,y with | .nfunc,.nfunc=>some true | .func ..,.nfunc=>some false | _,_=>none)
  | .iface=>(match x,y with | .niface,.niface=>some true | _,_=>none)
  | .strct _=>zbj ti x y
  | .array _ _=>zbj ti x y
  | _=>none
noncomputable def eqnT (op:BinOp)(o:Option Bool):Option T:=
  match op with
  | .eql=>(match o with | some b=>some (.bool b) | none=>none)
  | .neq=>(match o with | some b=>some (.bool (!b)) | none=>none)
  | _=>none
noncomputable def binT (p:Pr)(op:BinOp)(t:TypeId)(x y:T):Option T:=
  match x,y with
  | .int k a,.int j b=>match op with
    | .shl=>shOp .shl k a b
    | .shr=>shOp .shr k a b
    | op=>match beqK k j with | true=>intOp op k a b | false=>none
  | .str s,.str t=>match op with
    | .add=>match Nat.ble (s.length+t.length) 1000000000 with | true=>some (.str (s++t)) | false=>none
    | .eql=>some (.bool (beqS s t))
    | .neq=>some (.bool (!beqS s t))
    | _=>none
  | x,y=>match p.ty t with
    | some ti=>eqnT op (eqOp ti x y)
    | none=>none
noncomputable def zU:T→List T
  | .agg cs=>cs
  | v=>[v]
noncomputable def za6:T→Bool | .any=>false | _=>true
noncomputable def zd3:D→Bool | .strct _=>true | .array _ _=>true | _=>false
noncomputable def rowAt (s:S)(b:Nat):Option (List T):=match s.at b with | some (.row cs _ _)=>some cs | some (.ro cs _)=>some cs | _=>none
noncomputable def loadT (p:Pr)(s:S)(t:TypeId)(x:T):Option T:=
  match x with
  | .ptr b o=>match p.ty t,rowAt s b with
    | some ti,some cs=>match zd3 ti.d with
      | true=>match Nat.ble (o+ti.size) cs.length with | true=>some (.agg ((cs.drop o).take ti.size)) | false=>none
      | false=>cs[o]?
    | _,_=>none
  | _=>none
noncomputable def spl (c:List T)(off:Nat)(vs:List T):List T:=c.take off++vs++c.drop (off+vs.length)
noncomputable def oneT:T→Bool | .agg _=>false | .tup _=>false | .any=>false | _=>true
noncomputable def minN (a b:Nat):Nat:=match Nat.ble a b with | true=>a | false=>b
noncomputable def setV (s:S)(b:Nat)(o:Option VO)(nx low:Nat):S:=ite (Nat.ble b 16383) (En.setK (Pa.of 14 b) o s.V fun v=>⟨v,nx,low⟩) ⟨s.V,nx,low⟩
noncomputable def putO (s:S)(b:Nat)(o:VO):S:=setV s b (some o) s.nx (minN s.low b)
noncomputable def newO (s:S)(o:VO):S:=zaC (Nat.succ s.nx) fun n=>setV s s.nx (some o) n s.low
noncomputable def setQ (s:S)(b:Nat)(o:VO):S:=setV s b (some o) s.nx s.low
noncomputable def storeT (p:Pr)(s:S)(t:TypeId)(x v:T):Option S:=
  match x with
  | .ptr b o=>match p.ty t,s.at b with
    | some ti,some (.row cs ct tl)=>
      let vs:=zU v
      match Nat.beq vs.length ti.size&&Nat.ble (o+vs.length) cs.length&&vs.all oneT with
      | true=>some (putO s b (.row (spl cs o vs) ct tl))
      | false=>none
    | _,_=>none
  | _=>none
noncomputable def zbZ (fs:List (Nat × TypeId × Nat))(i:Nat):Option (Nat × TypeId × Nat):=fs[i]?
noncomputable def zaM : T → Option (Nat × Nat × Nat)   -- block, offset, length
  | .slice b o len _=>some (b,o,len)
  | .own b len=>some (b,0,len)
  | .sub b o len=>some (b,o,len)
  | _=>none
noncomputable def inR (n:Int)(len:Nat):Option Nat:=match n with | .ofNat a=>(match Nat.blt a len with | true=>some a | false=>none) | .negSucc _=>none
noncomputable def leR (n:Int)(len:Nat):Option Nat:=match n with | .ofNat a=>(match Nat.ble a len with | true=>some a | false=>none) | .negSucc _=>none
noncomputable def zjS (p:Pr)(t:TypeId)(x i:T):Option T:=
  match i with
  | .int _ n=>match p.ty t with
    | some ti=>match ti.d with
      | .slice el=>match p.ty el,zaM x with
        | some ei,some (b,o,len)=>match inR n len with | some j=>some (.ptr b (o+j*ei.size)) | none=>none
        | _,_=>none
      | .array len el=>match p.ty el,x with
        | some ei,.ptr b o=>match inR n len with | some j=>some (.ptr b (o+j*ei.size)) | none=>none
        | _,_=>none
      | _=>none
    | none=>none
  | _=>none
noncomputable def zcS (pl:Nat→Option (Nat × Nat)):List T→List (Nat × T)→Option (List T)
  | cells,[]=>some cells
  | cells,(i,v)::rest=>match pl i with
    | some (off,size)=>match za6 v&&Nat.beq (zU v).length size&&Nat.ble (off+size) cells.length with
      | true=>zcS pl (spl cells off (zU v)) rest
      | false=>none
    | none=>none
noncomputable def buildT (p:Pr)(t:TypeId)(parts:List (Nat × T)):Option T:=
  match p.ty t with
  | some ti=>match za6 ti.zero with
   | false=>none
   | true=>match ti.d with
    | .strct fs=>(zcS (fun i=>(zbZ fs i).map fun (o,_,s)=>(o,s)) (zU ti.zero) parts).map .agg
    | .array _ el=>match p.ty el with
      | some ei=>(zcS (fun i=>some (i*ei.size,ei.size)) (zU ti.zero) parts).map .agg
      | none=>none
    | _=>none
  | none=>none
noncomputable def rep (n:Nat)(l:List T):List T:=match n with | 0=>[] | n+1=>l++rep n l
noncomputable def zhv (p:Pr)(s:S)(t:TypeId)(n:Nat)(parts:List (Nat × T)):Option (T × S):=
  match p.ty t with
  | some ti=>match ti.d with
    | .slice el=>match p.ty el with
      | some ei=>match za6 ei.zero&&Nat.beq (zU ei.zero).length ei.size&&Nat.ble 1 ei.size&&Nat.ble (n*ei.size) 16777216 with
        | true=>match zcS (fun i=>some (i*ei.size,ei.size)) (rep n (zU ei.zero)) parts with
          | some cs=>some (.slice s.nx 0 n n,newO s (.row cs el false))
          | none=>none
        | false=>none
      | none=>none
    | _=>none
  | none=>none
noncomputable def bytesOf:List T→Option (List UInt8)
  | []=>some []
  | .int .u8 (.ofNat n)::r=>match Nat.blt n 256,bytesOf r with | true,some s=>some (UInt8.ofNat n::s) | _,_=>none
  | _=>none
noncomputable def zbE (s:List UInt8):List T:=s.map fun b=>.int .u8 (.ofNat b.toNat)
noncomputable def za8 (p:Pr)(s:S)(el:TypeId)(x:T):Option (List T):=
  match x with
  | .nslice=>some []
  | .empty=>some []
  | x=>match p.ty el,zaM x with
    | some ei,some (b,o,len)=>match rowAt s b with
      | some cs=>match Nat.ble (o+len*ei.size) cs.length with | true=>some ((cs.drop o).take (len*ei.size)) | false=>none
      | none=>none
    | _,_=>none
noncomputable def sliceLen:T→Option Nat
  | .nslice=>some 0
  | .empty=>some 0
  | .slice _ _ n _=>some n
  | .own _ n=>some n
  | .sub _ _ n=>some n
  | _=>none
noncomputable def srcT (p:Pr)(s:S)(el:TypeId)(xt:Option TypeId)(y:T):Option (List T × Nat):=
  match xt with
  | some xt=>match p.ty xt with
    | some xi=>match xi.d with
      | .string=>(match y with | .str t=>some (zbE t,t.length) | _=>none)
      | .slice _=>(match za8 p s el y,sliceLen y with | some c,some n=>some (c,n) | _,_=>none)
      | _=>none
    | none=>none
  | none=>none
noncomputable def ownRow (s:S)(el:TypeId)(cs:List T)(n:Nat):Option (T × S):=some (.own s.nx n,newO s (.row cs el true))
noncomputable def appAt (s:S)(el:TypeId)(size:Nat)(b len:Nat)(old news:List T)(m:Nat):Option (T × S):=
  match s.at b with
  | some (.row cs ct true)=>match Nat.beq ct el with
    | true=>match Nat.ble ((len+m)*size) cs.length with
      | true=>some (.own b (len+m),putO s b (.row (spl cs (len*size) news) ct true))
      | false=>ownRow (setV s b none s.nx (minN s.low b)) el (old++news) (len+m)
    | false=>none
  | _=>none
noncomputable def appIn (s:S)(b o len cap size:Nat)(news:List T)(m:Nat):Option (T × S):=
  match s.at b with
  | some (.row cs ct tl)=>match Nat.ble (o+(len+m)*size) cs.length with
    | true=>some (.slice b o (len+m) cap,putO s b (.row (spl cs (o+len*size) news) ct tl))
    | false=>none
  | _=>none
noncomputable def zfX (p:Pr)(s:S)(el:TypeId)(x:T)(news:List T)(m:Nat):Option (T × S):=
  match p.ty el,za8 p s el x,sliceLen x with
  | some ei,some old,some len=>
    match Nat.ble 1 ei.size&&Nat.ble 1 ei.bytes&&Nat.beq news.length (m*ei.size)&&Nat.ble ((len+m)*ei.bytes) 1000000&&news.all oneT&&(za6 ei.zero&&Nat.beq (zU ei.zero).length ei.size) with
    | true=>match x with
      | .nslice=>(match m with
        | 0=>some (.nslice,s)
        | m+1=>ownRow s el news (m+1))
      | .slice b o len cap=>(match Nat.ble (len+m) cap with
        | true=>appIn s b o len cap ei.size news m
        | false=>ownRow s el (old++news) (len+m))
      | .own b len=>appAt s el ei.size b len old news m
      | _=>none
    | false=>none
  | _,_,_=>none
abbrev Ent:=T × T × Nat
noncomputable def zaz (ki:TI)(k:T):List Ent→Option (Option Nat)
  | []=>some none
  | e::es=>match zah ki k e.1 with
    | some true=>some (some 0)
    | some false=>(match zaz ki k es with | some (some j)=>some (some (Nat.succ j)) | some none=>some none | none=>none)
    | none=>none
noncomputable def modE (f:Ent→Ent):List Ent→Nat→List Ent
  | [],_=>[]
  | e::es,0=>f e::es
  | e::es,n+1=>e::modE f es n
noncomputable def delE:List Ent→Nat→List Ent
  | [],_=>[]
  | _::es,0=>es
  | e::es,n+1=>e::delE es n
noncomputable def zfI (p:Pr)(t:TypeId):Option (TI × TI):=
  match p.ty t with
  | some ti=>match ti.d with
    | .map kt vt=>(match p.ty kt,p.ty vt with | some ki,some vi=>some (ki,vi) | _,_=>none)
    | _=>none
  | none=>none
noncomputable def zje (s:S):T→Option (List Ent)
  | .nmap=>some []
  | .map b=>match s.at b with | some (.map es _)=>some es | _=>none
  | _=>none
noncomputable def zhJ (p:Pr)(s:S)(t:TypeId)(x k:T)(ok:Bool):Option T:=
  match zfI p t,zje s x with
  | some (ki,vi),some es=>match zah ki k k with
   | some true=>match zaz ki k es with
    | some (some j)=>(match es[j]? with | some e=>some (match ok with | true=>.tup [e.2.1,.bool true] | false=>e.2.1) | none=>none)
    | some none=>some (match ok with | true=>.tup [vi.zero,.bool false] | false=>vi.zero)
    | none=>none
   | _=>none
  | _,_=>none
noncomputable def mupdT (p:Pr)(s:S)(t:TypeId)(x k v:T):Option S:=
  match zfI p t,x with
  | some (ki,_),.map b=>match s.at b with
    | some (.map es c)=>match zah ki k k with
     | some true=>match zaz ki k es with
      | some (some j)=>some (putO s b (.map (modE (fun e=>(k,v,e.2.2)) es j) c))
      | some none=>some (putO s b (.map (es++[(k,v,c)]) (c+1)))
      | none=>none
     | _=>none
    | _=>none
  | _,_=>none
noncomputable def zhK (p:Pr)(s:S)(t:TypeId)(x k:T):Option (T × S):=
  match zfI p t,x with
  | some (ki,vi),.map b=>match s.at b with
    | some (.map es c)=>match zah ki k k with
     | some true=>match zaz ki k es with
      | some (some j)=>(match es[j]? with | some e=>some (.tup [e.2.1,.int .i64 (.ofNat e.2.2)],putO s b (.map (modE (fun e=>(k,e.2.1,e.2.2)) es j) c)) | none=>none)
      | some none=>some (.tup [vi.zero,.int .i64 (.ofNat c)],putO s b (.map (es++[(k,vi.zero,c)]) (c+1)))
      | none=>none
     | _=>none
    | _=>none
  | _,_=>none
noncomputable def zhf (w:Nat):List Ent→Option Nat
  | []=>none
  | e::es=>match Nat.beq w e.2.2 with | true=>some 0 | false=>(match zhf w es with | some j=>some (Nat.succ j) | none=>none)
noncomputable def zlR (s:S)(x w v:T):Option S:=
  match x,w with
  | .map b,.int _ (.ofNat w)=>(match s.at b with
    | some (.map es c)=>(match zhf w es with | some j=>some (putO s b (.map (modE (fun e=>(e.1,v,e.2.2)) es j) c)) | none=>none)
    | _=>none)
  | _,_=>none
noncomputable def bndT (v:Option T)(d:Nat)(hi:Nat):Option Nat:=
  match v with
  | none=>leR (.ofNat d) hi
  | some (.int _ n)=>leR n hi
  | _=>none
noncomputable def zbu (lo hi mx:Option T)(len top:Nat):Option (Nat × Nat × Nat):=
  match mx with
  | none=>match bndT hi len top with
    | some r=>match bndT lo 0 r with
      | some l=>some (l,r,top)
      | none=>none
    | none=>none
  | some m=>match hi with
    | none=>none
    | some hi=>match bndT (some m) 0 top with
      | some m=>match bndT (some hi) 0 m with
        | some r=>match bndT lo 0 r with
          | some l=>some (l,r,m)
          | none=>none
        | none=>none
      | none=>none
noncomputable def cutK (b o sz l r m:Nat):T:=.slice b (match Nat.beq m l with | true=>o | false=>o+l*sz) (r - l) (m - l)
noncomputable def cutU (b o sz l r:Nat):T:=match Nat.blt l r with | true=>.sub b (o+l*sz) (r - l) | false=>.empty
noncomputable def slStr (s:List UInt8)(lo hi mx:Option T):Option T:=
  match zbu lo hi mx s.length s.length,mx with
  | some (l,r,_),none=>some (.str ((s.drop l).take (r - l)))
  | _,_=>none
noncomputable def zkR (s:S)(el:TypeId)(sz b len:Nat):Nat:=
  match s.at b with
  | some (.row cs ct true)=>(match Nat.beq ct el&&Nat.ble 1 sz with | true=>Nat.div cs.length sz | false=>len)
  | _=>len
noncomputable def slSl (s:S)(el:TypeId)(sz:Nat)(x:T)(lo hi mx:Option T):Option T:=
  match x with
  | .nslice=>match zbu lo hi mx 0 0 with | some _=>some .nslice | none=>none
  | .empty=>match zbu lo hi mx 0 0,mx with | some _,none=>some .empty | _,_=>none
  | .slice b o len c=>match zbu lo hi mx len c with | some (l,r,m)=>some (cutK b o sz l r m) | none=>none
  | .own b len=>match zbu lo hi mx len (zkR s el sz b len) with
    | some (l,r,m)=>match mx with
      | none=>(match l with | 0=>some (.own b r) | l+1=>some (cutU b 0 sz (l+1) r))
      | some _=>some (cutK b 0 sz l r m)
    | none=>none
  | .sub b o len=>match zbu lo hi mx len len with
    | some (l,r,m)=>match mx with
      | none=>(match l with | 0=>some (.sub b o r) | l+1=>some (cutU b o sz (l+1) r))
      | some _=>some (cutK b o sz l r m)
    | none=>none
  | _=>none
noncomputable def slArr (sz n:Nat)(x:T)(lo hi mx:Option T):Option T:=
  match x,mx with
  | .ptr b o,none=>match zbu lo hi none n n with | some (l,r,m)=>some (cutK b o sz l r m) | none=>none
  | _,_=>none
noncomputable def zjy (p:Pr)(s:S)(t:TypeId)(x:T)(lo hi mx:Option T):Option T:=
  match p.ty t with
  | some ti=>match ti.d with
    | .string=>(match x with | .str s=>slStr s lo hi mx | _=>none)
    | .slice el=>match p.ty el with | some ei=>slSl s el ei.size x lo hi mx | none=>none
    | .array n el=>match p.ty el with | some ei=>slArr ei.size n x lo hi mx | none=>none
    | _=>none
  | none=>none
noncomputable def runeAt (s:List UInt8)(pos:Nat):Option (Nat × Nat):=match s[pos]? with | some b=>(match Nat.blt b.toNat 128 with | true=>some (b.toNat,1) | false=>none) | none=>none
noncomputable def zfY (s:S)(x:T)(str:Bool):Option (T × S):=
  match x with
  | .ptr r 0=>match s.at r,str with
    | some (.siter t pos),true=>match Nat.blt pos t.length with
      | true=>match runeAt t pos with
        | some (c,w)=>some (.tup [.bool true,.int .i64 (.ofNat pos),.int .i32 (.ofNat c)],putO s r (.siter t (pos+w)))
        | none=>none
      | false=>some (.tup [.bool false],s)
    | some (.miter m since seen last),false=>match s.at m with
      | some (.map es clock)=>match Nat.ble since last&&es.all (fun e=>Nat.blt e.2.2 since) with
        | true=>(match es.filter (fun e=>!(seen.any fun b=>Nat.beq b e.2.2)) with
          | []=>some (.tup [.bool false],s)
          | [e]=>some (.tup [.bool true,e.1,e.2.1],putO s r (.miter m since (seen++[e.2.2]) clock))
          | _=>none)
        | false=>none
      | _=>none
    | _,_=>none
  | _=>none
noncomputable def zjk (s:S)(x:T):Option T:=
  match x with
  | .ptr r 0=>match s.at r with
    | some (.pick mp)=>(match s.at mp with | some (.amap es j false)=>(match es[j]? with | some e=>some (.tup [e.1,e.2.1]) | none=>none) | _=>none)
    | some (.miter mp _ seen last)=>(match s.at mp,seen.getLast? with
      | some (.map es clock),some b=>(match Nat.beq clock last with
        | true=>(match es.find? fun e=>Nat.beq e.2.2 b with | some e=>some (.tup [e.1,e.2.1]) | none=>none)
        | false=>none)
      | _,_=>none)
    | _=>none
  | _=>none
noncomputable def opd (m:Fm)(e:E):Operand→Option T
  | .tmp t=>some (seeE m e t)
  | .const v=>toT1 v
  | .func f=>some (.func (.func f) [] [])
  | .global _=>none
noncomputable def opds (m:Fm)(e:E):List Operand→Option (List T)
  | []=>some []
  | x::xs=>match opd m e x,opds m e xs with | some a,some r=>some (a::r) | _,_=>none
noncomputable def zb4 (m:Fm)(e:E):List (Nat × Operand)→Option (List (Nat × T))
  | []=>some []
  | (i,x)::xs=>match opd m e x,zb4 m e xs with | some a,some r=>some ((i,a)::r) | _,_=>none
noncomputable def opdO (m:Fm)(e:E):Option Operand→Option (Option T)
  | none=>some none
  | some x=>match opd m e x with | some a=>some (some a) | none=>none
noncomputable def zdF (p:Pr)(t:Option TypeId):Option TypeId:=
  match t with
  | some t=>match p.ty t with | some ti=>(match ti.d with | .slice el=>some el | _=>none) | none=>none
  | none=>none
noncomputable def descOf (p:Pr)(t:Option TypeId):Option D:=match t with | some t=>(match p.ty t with | some ti=>some ti.d | none=>none) | none=>none
noncomputable def mapLen (s:S):T→Option Nat
  | .nmap=>some 0
  | .map b=>match s.at b with | some (.map es _)=>some es.length | _=>none
  | _=>none
noncomputable def zl9 (s:S)(ki:TI)(b:Nat)(k:T):Option (T × S):=
  match s.at b with
  | some (.map es c)=>(match zah ki k k,zaz ki k es with
    | some true,some (some j)=>some (.tup [],putO s b (.map (delE es j) c))
    | some true,some none=>some (.tup [],putO s b (.map es c))
    | _,_=>none)
  | some (.amap es j false)=>(match zah ki k k,zaz ki k es with
    | some true,some (some i)=>(match Nat.beq i j with | true=>some (.tup [],setQ s b (.amap es j true)) | false=>none)
    | _,_=>none)
  | _=>none
noncomputable def lenB (p:Pr)(s:S)(ats:List TypeId)(x:T):Option (T × S):=
  match descOf p ats[0]? with
  | some .string=>(match x with | .str t=>some (.int .i64 (.ofNat t.length),s) | _=>none)
  | some (.slice _)=>(match sliceLen x with | some n=>some (.int .i64 (.ofNat n),s) | none=>none)
  | some (.map _ _)=>(match mapLen s x with | some n=>some (.int .i64 (.ofNat n),s) | none=>none)
  | _=>none
noncomputable def minB (s:S)(x y:T):Option (T × S):=
  match x,y with
  | .int k x,.int j y=>(match beqK k j with | true=>some (.int k (match ltI y x with | true=>y | false=>x),s) | false=>none)
  | _,_=>none
noncomputable def maxB (s:S)(x y:T):Option (T × S):=
  match x,y with
  | .int k x,.int j y=>(match beqK k j with | true=>some (.int k (match ltI x y with | true=>y | false=>x),s) | false=>none)
  | _,_=>none
noncomputable def isIntT (p:Pr)(t:Option TypeId):Bool:=match descOf p t with | some (.int _)=>true | _=>false
noncomputable def appZ (p:Pr)(s:S)(el:TypeId)(x y:T):Option (T × S):=
  match x,y,p.ty el with
  | .nslice,.int .i64 (.ofNat (m+1)),some ei=>(match Nat.ble 1 ei.size&&Nat.ble 1 ei.bytes&&Nat.ble ((m+1)*ei.bytes) 1000000&&(za6 ei.zero&&Nat.beq (zU ei.zero).length ei.size) with
    | true=>ownRow s el (rep (m+1) (zU ei.zero)) (m+1)
    | false=>none)
  | _,_,_=>none
noncomputable def appB (p:Pr)(s:S)(ats:List TypeId)(x y:T):Option (T × S):=
  match zdF p ats[0]? with
  | some el=>(match isIntT p ats[1]? with
    | true=>appZ p s el x y
    | false=>(match srcT p s el ats[1]? y with | some (news,m)=>zfX p s el x news m | none=>none))
  | none=>none
noncomputable def copyAt (s:S)(b o k size m:Nat)(src:List T):Option (T × S):=
  match s.at b with
  | some (.row cs ct tl)=>match Nat.ble (o+k*size) cs.length&&(src.take (k*size)).all oneT&&Nat.beq src.length (m*size) with
    | true=>some (.int .i64 (.ofNat k),putO s b (.row (spl cs o (src.take (k*size))) ct tl))
    | false=>none
  | _=>none
noncomputable def copyB (p:Pr)(s:S)(ats:List TypeId)(x y:T):Option (T × S):=
  match zdF p ats[0]? with
  | some el=>match p.ty el,srcT p s el ats[1]? y,sliceLen x with
    | some ei,some (src,m),some n=>(match zaM x with
      | some (b,o,_)=>copyAt s b o (minN m n) ei.size m src
      | none=>match x,Nat.beq src.length (m*ei.size) with | .nslice,true=>some (.int .i64 0,s) | _,_=>none)
    | _,_,_=>none
  | none=>none
noncomputable def zl4 (s:S)(b o n:Nat)(ei:TI):Option (T × S):=
  match s.at b with
  | some (.row cs ct tl)=>match Nat.ble (o+n*ei.size) cs.length&&za6 ei.zero&&(zU ei.zero).all oneT&&Nat.beq (zU ei.zero).length ei.size with
    | true=>some (.tup [],putO s b (.row (spl cs o (rep n (zU ei.zero))) ct tl))
    | false=>none
  | _=>none
noncomputable def zks (p:Pr)(s:S)(ats:List TypeId)(x:T):Option (T × S):=
  match descOf p ats[0]? with
  | some (.map _ _)=>(match x with
    | .map b=>(match s.at b with | some (.map _ c)=>some (.tup [],putO s b (.map [] c)) | _=>none)
    | .nmap=>some (.tup [],s)
    | _=>none)
  | some (.slice el)=>(match x with
    | .nslice=>some (.tup [],s)
    | x=>(match zaM x,p.ty el with | some (b,o,n),some ei=>zl4 s b o n ei | _,_=>none))
  | _=>none
noncomputable def delB (p:Pr)(s:S)(ats:List TypeId)(x k:T):Option (T × S):=
  match ats[0]? with
  | some t=>(match zfI p t,x with
    | some (ki,_),.map b=>zl9 s ki b k
    | _,_=>none)
  | none=>none
noncomputable def capB (p:Pr)(s:S)(ats:List TypeId)(x:T):Option (T × S):=
  match descOf p ats[0]? with
  | some (.slice _)=>(match x with | .nslice=>some (.int .i64 0,s) | .slice _ _ _ c=>some (.int .i64 (.ofNat c),s) | _=>none)
  | _=>none
noncomputable def isByte (p:Pr)(el:TypeId):Bool:=match p.ty el with | some ei=>(match ei.d with | .int .u8=>Nat.beq ei.size 1 | _=>false) | none=>false
noncomputable def zkV (s:S)(x:T):Option (T × S):=
  match x with
  | .nslice=>some (.nptr,s)
  | .own b (n+1)=>some (.ptr b 0,s)
  | .slice b o _ (c+1)=>some (.ptr b o,s)
  | _=>none
noncomputable def ustrAt (p:Pr)(s:S)(pt:TypeId)(b n:Nat):Option (T × S):=
  match p.ty pt with
  | some pi=>(match pi.d with
    | .ptr el=>(match s.at b with
      | some (.row cs ct _)=>(match Nat.beq el ct&&isByte p el&&Nat.ble (n+1) cs.length&&Nat.ble n 1000000,bytesOf (cs.take (n+1)) with
        | true,some l=>some (.str l,setV s b (some (.ro cs ct)) s.nx (minN s.low b))
        | _,_=>none)
      | _=>none)
    | _=>none)
  | none=>none
noncomputable def ustrB (p:Pr)(s:S)(ats:List TypeId)(x y:T):Option (T × S):=
  match ats,x,y with
  | [_,_],.nptr,.int .i64 (.ofNat 0)=>some (.str [],s)
  | [pt,_],.ptr b 0,.int .i64 (.ofNat (n+1))=>ustrAt p s pt b n
  | _,_,_=>none
noncomputable def zge (p:Pr)(s:S)(b:Builtin)(ats:List TypeId)(vs:List T):Option (T × S):=
  match b,vs with
  | .len,[x]=>lenB p s ats x
  | .cap,[x]=>capB p s ats x
  | .clear,[x]=>zks p s ats x
  | .min,[x,y]=>minB s x y
  | .max,[x,y]=>maxB s x y
  | .append,[x,y]=>appB p s ats x y
  | .copy,[x,y]=>copyB p s ats x y
  | .delete,[x,k]=>delB p s ats x k
  | .unsafeSliceData,[x]=>zkV s x
  | .unsafeString,[x,y]=>ustrB p s ats x y
  | _,_=>none
noncomputable def zgk (p:Pr)(s:S)(el:TypeId)(t:List UInt8):Option (T × S):=
  match isByte p el with
  | true=>some (.sub s.nx 0 t.length,newO s (.ro (zbE t) el))
  | false=>none
noncomputable def zgo (p:Pr)(s:S)(el:TypeId)(x:T):Option (T × S):=
  match isByte p el,za8 p s el x,sliceLen x with
  | true,some cs,some _=>(match bytesOf cs with | some t=>some (.str t,s) | none=>none)
  | _,_,_=>none
noncomputable def convT (p:Pr)(s:S)(src dst:TypeId)(x:T):Option (T × S):=
  match p.ty src,p.ty dst with
  | some si,some di=>match si.d,di.d,x with
    | .int _,.int k,.int _ n=>(match cInt k n with | some v=>some (v,s) | none=>none)
    | .string,.string,.str t=>some (.str t,s)
    | .string,.slice el,.str t=>zgk p s el t
    | .slice el,.string,x=>zgo p s el x
    | .int _,.string,.int _ (.ofNat n)=>(match Nat.blt n 128 with | true=>some (.str [UInt8.ofNat n],s) | false=>none)
    | _,_,_=>none
  | _,_=>none
noncomputable def pu (s:S)(v:Option T):Option (T × S):=bnd v fun v=>some (v,s)
noncomputable def zhM (p:Pr)(m:Fm)(e:E)(s:S)(x:Operand):Option (T × S):=
  pu s (opd m e x)
noncomputable def zfB (p:Pr)(m:Fm)(e:E)(s:S)(x:Operand):Option (T × S):=
  pu s (opd m e x)
noncomputable def zfJ (p:Pr)(m:Fm)(e:E)(s:S)(c:Operand)(a:Operand)(b:Operand):Option (T × S):=
  match opd m e c with
    | some (.bool true)=>pu s (opd m e a)
    | some (.bool false)=>pu s (opd m e b)
    | _=>none
noncomputable def zcn (p:Pr)(m:Fm)(e:E)(s:S)(t:TypeId):Option (T × S):=
  match p.ty t with
  | some ti=>(match za6 ti.zero with | true=>some (.ptr s.nx 0,newO s (.row (zU ti.zero) t false)) | false=>none)
  | none=>none
noncomputable def zdr (p:Pr)(m:Fm)(e:E)(s:S)(t:TypeId)(x:Operand):Option (T × S):=
  match opd m e x with
  | some v=>(match za6 v with | true=>some (.ptr s.nx 0,newO s (.row (zU v) t false)) | false=>none)
  | none=>none
noncomputable def zeq (p:Pr)(m:Fm)(e:E)(s:S)(t:TypeId)(parts:Array (Nat × Operand)):Option (T × S):=
  match zb4 m e parts.toList with | some ps=>pu s (buildT p t ps) | none=>none
noncomputable def zaJ (p:Pr)(m:Fm)(e:E)(s:S)(t:TypeId)(n:Nat)(parts:Array (Nat × Operand)):Option (T × S):=
  match zb4 m e parts.toList with | some ps=>zhv p s t n ps | none=>none
noncomputable def zc7 (p:Pr)(m:Fm)(e:E)(s:S)(t:TypeId)(x:Operand):Option (T × S):=
  match opd m e x with | some v=>pu s (loadT p s t v) | none=>none
noncomputable def zem (p:Pr)(m:Fm)(e:E)(s:S)(t:TypeId)(a:Operand)(x:Operand):Option (T × S):=
  match opd m e a,opd m e x with
    | some a,some v=>match storeT p s t a v with | some s=>some (zae,s) | none=>none
    | _,_=>none
noncomputable def zct (p:Pr)(m:Fm)(e:E)(s:S)(x:Operand):Option (T × S):=
  match opd m e x with | some (.ptr b o)=>some (.ptr b o,s) | _=>none
noncomputable def isC:Operand→Bool | .const _=>true | _=>false
noncomputable def nifOk (b:T)(y:Operand):Bool:=match b with | .niface=>isC y | _=>true
noncomputable def zei (p:Pr)(m:Fm)(e:E)(s:S)(op:BinOp)(t:TypeId)(x:Operand)(y:Operand):Option (T × S):=
  match opd m e x,opd m e y with | some a,some b=>(match nifOk b y with | true=>pu s (binT p op t a b) | false=>none) | _,_=>none
noncomputable def zhp (p:Pr)(m:Fm)(e:E)(s:S)(x:Operand):Option (T × S):=
  match opd m e x with | some (.bool b)=>some (.bool (!b),s) | _=>none
noncomputable def zhs (p:Pr)(m:Fm)(e:E)(s:S)(x:Operand):Option (T × S):=
  match opd m e x with | some (.int k n)=>pu s (cInt k (0 - n)) | _=>none
noncomputable def do_un (p:Pr)(m:Fm)(e:E)(s:S)(u:UnOp)(x:Operand):Option (T × S):=
  match u with | .not=>zhp p m e s x | .neg=>zhs p m e s x | _=>none
noncomputable def zcY (p:Pr)(m:Fm)(e:E)(s:S)(a:TypeId)(b:TypeId)(x:Operand):Option (T × S):=
  match opd m e x with | some v=>convT p s a b v | none=>none
noncomputable def zcw (p:Pr)(m:Fm)(e:E)(s:S)(fn:Fn)(first:Array Operand)(caps:Array Operand):Option (T × S):=
  match fn with
  | .func g=>(match opds m e first.toList,opds m e caps.toList with | some a,some b=>some (.func (.func g) a b,s) | _,_=>none)
  | _=>none
noncomputable def zbC (p:Pr)(m:Fm)(e:E)(s:S)(r:Option Operand):Option (T × S):=
  match r with | none=>some (.map s.nx,newO s (.map [] 0)) | some _=>none
noncomputable def zgA (p:Pr)(s:S)(el:TypeId)(n k:Nat):Option (T × S):=
  match p.ty el with
  | some ei=>match za6 ei.zero&&Nat.beq (zU ei.zero).length ei.size&&Nat.ble 1 ei.size&&Nat.ble n k&&Nat.ble (k*ei.size) 1000000&&Nat.ble (k*ei.bytes) 1000000 with
    | true=>some (.slice s.nx 0 n k,newO s (.row (rep k (zU ei.zero)) el false))
    | false=>none
  | none=>none
noncomputable def zaP (p:Pr)(m:Fm)(e:E)(s:S)(t:TypeId)(l:Operand)(c:Operand):Option (T × S):=
  match opd m e l,opd m e c,p.ty t with
    | some (.int _ n),some (.int _ k),some ti=>match ti.d,n,k with
      | .slice el,.ofNat n,.ofNat k=>zgA p s el n k
      | _,_,_=>none
    | _,_,_=>none
noncomputable def zev (p:Pr)(m:Fm)(e:E)(s:S)(t:TypeId)(x:Operand)(lo:Option Operand)(hi:Option Operand)(mx:Option Operand):Option (T × S):=
  match opd m e x,opdO m e lo,opdO m e hi,opdO m e mx with
    | some x,some lo,some hi,some mx=>pu s (zjy p s t x lo hi mx)
    | _,_,_,_=>none
noncomputable def zcc (p:Pr)(m:Fm)(e:E)(s:S)(t:TypeId)(x:Operand)(f:Nat):Option (T × S):=
  match opd m e x,p.ty t with
  | some (.ptr b o),some ti=>(match ti.d with
    | .strct fs=>(match zbZ fs f with
      | some (off,ft,_)=>(match p.ty ft with
        | some fi=>(match Nat.ble 1 fi.size with | true=>some (.ptr b (o+off),s) | false=>none)
        | none=>none)
      | none=>none)
    | _=>none)
  | _,_=>none
noncomputable def zeu (p:Pr)(m:Fm)(e:E)(s:S)(t:TypeId)(x:Operand)(f:Nat):Option (T × S):=
  match opd m e x,p.ty t with
    | some (.agg cs),some ti=>(match ti.d with
      | .strct fs=>match zbZ fs f with
        | some (off,ft,sz)=>match p.ty ft with
          | some fi=>(match zd3 fi.d with
            | true=>match Nat.ble (off+sz) cs.length with | true=>some (.agg ((cs.drop off).take sz),s) | false=>none
            | false=>pu s cs[off]?)
          | none=>none
        | none=>none
      | _=>none)
    | _,_=>none
noncomputable def zcd (p:Pr)(m:Fm)(e:E)(s:S)(t:TypeId)(x:Operand)(i:Operand):Option (T × S):=
  match opd m e x,opd m e i with | some x,some i=>pu s (zjS p t x i) | _,_=>none
noncomputable def zen (p:Pr)(m:Fm)(e:E)(s:S)(t:TypeId)(x i:Operand):Option (T × S):=
  match opd m e x,opd m e i with
  | some xv,some (.int _ n)=>(match p.ty t with
    | some ti=>(match ti.d,xv with
      | .string,.str a=>(match inR n a.length with
        | some j=>(match a[j]? with | some b=>some (.int .u8 (.ofNat b.toNat),s) | none=>none)
        | none=>none)
      | .array len el,.agg cs=>(match p.ty el,inR n len with
        | some ei,some j=>(match zd3 ei.d with
          | true=>(match Nat.ble (j*ei.size+ei.size) cs.length with | true=>some (.agg ((cs.drop (j*ei.size)).take ei.size),s) | false=>none)
          | false=>pu s cs[j*ei.size]?)
        | _,_=>none)
      | _,_=>none)
    | none=>none)
  | _,_=>none
noncomputable def zb1 (p:Pr)(m:Fm)(e:E)(s:S)(t:TypeId)(x:Operand)(k:Operand)(ok:Bool):Option (T × S):=
  match opd m e x,opd m e k with | some x,some k=>pu s (zhJ p s t x k ok) | _,_=>none
noncomputable def zb7 (p:Pr)(m:Fm)(e:E)(s:S)(t:TypeId)(x:Operand)(k:Operand)(v:Operand):Option (T × S):=
  match opd m e x,opd m e k,opd m e v with
    | some x,some k,some v=>match mupdT p s t x k v with | some s=>some (zae,s) | none=>none
    | _,_,_=>none
noncomputable def zeD (p:Pr)(m:Fm)(e:E)(s:S)(t:TypeId)(x:Operand):Option (T × S):=
  match opd m e x,p.ty t with
  | some xv,some ti=>(match ti.d,xv with
    | .string,.str a=>some (.ptr s.nx 0,newO s (.siter a 0))
    | .map _ _,.map b=>(match s.at b with
      | some (.map _ c)=>some (.ptr s.nx 0,newO s (.miter b c [] c))
      | _=>none)
    | _,_=>none)
  | _,_=>none
noncomputable def zfF (p:Pr)(m:Fm)(e:E)(s:S)(x:Operand)(str:Bool):Option (T × S):=
  match opd m e x with | some x=>zfY s x str | none=>none
noncomputable def zcT (p:Pr)(m:Fm)(e:E)(s:S)(x:Operand)(i:Nat):Option (T × S):=
  match opd m e x with | some (.tup vs)=>pu s vs[i]? | _=>none
noncomputable def zfK (p:Pr)(m:Fm)(e:E)(s:S)(c:Call):Option (T × S):=
  match c.callee with
    | .builtin b=>match opds m e c.args.toList with | some vs=>zge p s b c.argTypes.toList vs | none=>none
    | _=>none
noncomputable def zcj (p:Pr)(m:Fm)(e:E)(s:S)(x:Operand):Option (T × S):=match opd m e x with | some x=>pu s (zjk s x) | none=>none
noncomputable def zcA (p:Pr)(m:Fm)(e:E)(s:S)(t:TypeId)(x k:Operand):Option (T × S):=match opd m e x,opd m e k with | some x,some k=>zhK p s t x k | _,_=>none
noncomputable def zbM (p:Pr)(m:Fm)(e:E)(s:S)(x w v:Operand):Option (T × S):=
  match opd m e x,opd m e w,opd m e v with | some x,some w,some v=>(match zlR s x w v with | some s=>some (zae,s) | none=>none) | _,_,_=>none
noncomputable def zau (p:Pr)(m:Fm)(o:Op)(e:E)(s:S):Option (T × S):=
  match o with
  | .move x=>zhM p m e s x
  | .assign x=>zfB p m e s x
  | .pick c a b=>zfJ p m e s c a b
  | .alloc t=>zcn p m e s t
  | .box t x=>zdr p m e s t x
  | .build t parts=>zeq p m e s t parts
  | .buildSlice t n parts=>zaJ p m e s t n parts
  | .load t x=>zc7 p m e s t x
  | .store t a x=>zem p m e s t a x
  | .nilCheck x=>zct p m e s x
  | .binOp op t x y _=>zei p m e s op t x y
  | .unOp u t x=>do_un p m e s u x
  | .convert a b x=>zcY p m e s a b x
  | .makeFunc fn first caps=>zcw p m e s fn first caps
  | .makeMap _ r=>zbC p m e s r
  | .makeSlice t l c=>zaP p m e s t l c
  | .slice t x lo hi mx=>zev p m e s t x lo hi mx
  | .fieldAddr t x f=>zcc p m e s t x f
  | .field t x f=>zeu p m e s t x f
  | .indexAddr t x i=>zcd p m e s t x i
  | .index t x i=>zen p m e s t x i
  | .lookup t x k ok=>zb1 p m e s t x k ok
  | .mapUpdate t x k v=>zb7 p m e s t x k v
  | .range t x=>zeD p m e s t x
  | .next x str=>zfF p m e s x str
  | .extract x i=>zcT p m e s x i
  | .entry x=>zcj p m e s x
  | .mapEntry t x k=>zcA p m e s t x k
  | .entryStore _ x w v=>zbM p m e s x w v
  | .call c=>zfK p m e s c
  | _=>none
inductive Res (α:Type) where
  | ok (a:α)
  | bad (why:String)
inductive Ex where
  | normal | exit (i:Nat) | goto (i:Nat) | ret
structure Out where
  x:Ex
  e:E
  d:List Nat
  s:S
abbrev zan:=T→List T→S→Res (T × S)
abbrev zu:=Fm→Option Nat→Code→E→List Nat→S→Res Out
noncomputable def zjD:Op→Option (Operand × List Operand)
  | .call c=>match c.callee with | .value f=>some (f,c.args.toList) | _=>none
  | _=>none
noncomputable def zjW (m:Fm)(cf:zan)(f:Operand)(xs:List Operand)(pos:String)(e:E)(s:S):Res (T × S):=
  match opd m e f,opds m e xs with
  | some g, some vs => (match cf g vs s with | .ok r => .ok r | .bad w => .bad (w ++ " < " ++ pos))
  | _,_=>.bad pos
noncomputable def zhy (p:Pr)(m:Fm)(o:Op)(pos:String)(e:E)(s:S):Res (T × S):=
  match zau p m o e s with
  | some r=>.ok r
  | none=>.bad pos
noncomputable def oper (p:Pr)(m:Fm)(cf:zan)(o:Op)(pos:String)(e:E)(s:S):Res (T × S):=
  match zjD o with
  | some (f,xs)=>zjW m cf f xs pos e s
  | none=>zhy p m o pos e s
noncomputable def wants (m:Fm)(all:List Oper)(g:Option (Nat × Bool))(e:E):Option Bool:=
  match g with
  | none=>some true
  | some (j,want)=>match zaH all j with
    | none=>some false
    | some t=>match seeE m e t with
      | .bool b=>some (match b,want with | true,true=>true | false,false=>true | _,_=>false)
      | .tup []=>some false
      | _=>none
noncomputable def zcD (m:Fm)(e:E)(d:Option Tmp)(v:T)(pos:String)(s:S)(k:E→S→Res (E × S)):Res (E × S):=
  match d with
  | none=>k e s
  | some t=>ite (Nat.ble (Nat.succ t) m.n) (force v fun v=>En.setK (Pa.of m.dp t) v e fun e=>k e s) (.bad pos)
noncomputable def runOp (p:Pr)(m:Fm)(cf:zan)(all:List Oper)(o:Oper)(k:E→S→Res (E × S))(e:E)(s:S):Res (E × S):=
  match wants m all o.guard e with
  | some true=>match oper p m cf o.op o.pos e s with
    | .ok (v,s)=>zcD m e o.dst v o.pos s k
    | .bad w=>.bad w
  | some false=>zcD m e o.dst zae o.pos s k
  | none=>.bad o.pos
noncomputable def zdQ (p:Pr)(m:Fm)(cf:zan)(all:List Oper)(ops:List Oper):E→S→Res (E × S):=
  List.rec (motive:=fun _=>E→S→Res (E × S)) (fun e s=>.ok (e,s)) (fun o _ ih=>runOp p m cf all o ih) ops
noncomputable def zcW {β:Type}(m:Fm):List T→Nat→E→(E→β)→β
  | [],_,e,k=>k e
  | v::vs,i,e,k=>En.setK (Pa.of m.dp i) v e fun e=>zcW m vs (Nat.succ i) e k
noncomputable def resT (p:Pr)(m:Fm):List ResultVar→E→S→Option (List T)
  | [],_,_=>some []
  | .tmp t::rs,e,s=>match resT p m rs e s with | some r=>some (seeE m e t::r) | none=>none
  | .cell a t::rs,e,s=>match loadT p s t (seeE m e a),resT p m rs e s with | some v,some r=>some (v::r) | _,_=>none
noncomputable def packT:List T→T | [v]=>v | vs=>.tup vs
noncomputable def zcL {β:Type}(m:Fm):List Tmp→List T→E→(E→β)→β
  | q::qs,v::vs,e,k=>En.setK (Pa.of m.dp q) v e fun e=>zcL m qs vs e k
  | _,_,e,k=>k e
noncomputable def zeZ:List Nat→S→Option S
  | [],s=>some s
  | b::ds,s=>match s.at b with
    | some (.defs true)=>zeZ ds (putO s b (.defs false))
    | _=>none
structure LO where
  st:LoopState
  pend:Option Code
  m:Fm
  tm:En T
  pa:List Tmp
  asg:Code
  bd:Code
  df:Nat
noncomputable def zb2 (s:S)(l:Nat):Option LO:=match s.at l with | some (.loop st pend dp n tm pa asg bd df)=>some ⟨st,pend,⟨dp,n⟩,tm,pa,asg,bd,df⟩ | _=>none
noncomputable def zbh (s:S)(l:Nat)(r:LO):S:=putO s l (.loop r.st r.pend r.m.dp r.m.n r.tm r.pa r.asg r.bd r.df)
noncomputable def za7 (n:Nat):Nat:=ite (Nat.ble n 16) 4 (ite (Nat.ble n 64) 6 (ite (Nat.ble n 256) 8 10))
noncomputable def zhq (p:Pr)(m:Fm)(rs:List ResultVar)(e:E)(d:List Nat)(s:S):Res (T × S):=
  match zeZ d s with
  | some s=>match resT p m rs e s with
    | some vs=>.ok (packT vs,s)
    | none => .bad "results"
  | none => .bad "marks"
noncomputable def zg7 (p:Pr)(self:zu)(g:FuncId)(vs:List T)(s:S):Res (T × S):=
  match p.fn g with
  | some fi=>ite (Nat.ble vs.length fi.nt&&Nat.ble fi.nt 1024) (zcW ⟨za7 fi.nt,fi.nt⟩ vs 0 (.leaf zae) fun e=>
    match self ⟨za7 fi.nt,fi.nt⟩ none fi.body e [] s with
    | .ok ⟨.normal,e,d,s⟩=>zhq p ⟨za7 fi.nt,fi.nt⟩ fi.res e d s
    | .ok ⟨.ret,e,d,s⟩=>zhq p ⟨za7 fi.nt,fi.nt⟩ fi.res e d s
    | .ok _ => .bad "leaves"
    | .bad w => .bad w) (.bad "frame")
  | none => .bad ("no function " ++ toString g)
noncomputable def joinL (sep:List UInt8):List T→Option (List UInt8)
  | []=>some []
  | [.str a]=>some a
  | .str a::r=>match joinL sep r with | some b=>some (a++sep++b) | none=>none
  | _=>none
noncomputable def libT (s:S)(c:Nat)(args:List T):Option (T × S):=
  match c,args with
  | 1,[x,.str sep]=>(match zaM x with
    | some (b,o,n)=>(match rowAt s b with
      | some cs=>(match Nat.ble (o+n) cs.length,joinL sep ((cs.drop o).take n) with | true,some r=>some (.str r,s) | _,_=>none)
      | none=>none)
    | none=>match x with | .nslice=>some (.str [],s) | .empty=>some (.str [],s) | _=>none)
  | _,_=>none
noncomputable def zfQ (p:Pr)(self:zu)(g:FuncId)(vs:List T)(s:S):Res (T × S):=
  match p.lib g with
  | 0=>zg7 p self g vs s
  | c => match libT s c vs with | some r => .ok r | none => .bad "library"
noncomputable def zjP:Ex→Option Code | .normal=>none | .ret=>some .ret | .exit i=>some (.exit i) | .goto i=>some (.goto i)
noncomputable def ze1 (self:zu)(l:Nat)(args:List T)(s:S):Res (T × S):=
  match zb2 s l with
  | some r=>ite (Nat.beq r.pa.length args.length&&r.pa.all fun q=>Nat.ble (Nat.succ q) r.m.n) (zcL r.m r.pa args r.tm fun e=>
    match self r.m (some l) r.asg e [] s with
      | .ok ⟨.normal,e,d,s⟩=>match zb2 s l with
        | some r'=>match r'.st with
          | .ready=>match self r.m (some l) r.bd e d (zbh s l { r' with st:=.busy }) with
            | .ok ⟨x,_,_,s⟩=>match zb2 s l with
              | some r=>(match zjP x with
                | none=>.ok (.bool true,zbh s l { r with st:=.ready,pend:=none })
                | some j=>.ok (.bool false,zbh s l { r with st:=.done,pend:=some j }))
              | none => .bad "round's record"
            | .bad w=>.bad w
          | _ => .bad "round not ready"
        | none => .bad "round's record"
      | .ok _ => .bad "round's head"
      | .bad w => .bad w) (.bad "yield's arguments")
  | none => .bad "no record"
noncomputable def extT (p:Pr)(s:S)(x:X)(args:List T):Option (T × S):=
  match x,args with
  | .mnz el,[.int .i64 (.ofNat n)]=>(match isByte p el&&Nat.ble n 1000000 with
    | true=>some (.own s.nx n,newO s (.row (rep n [.any]) el true))
    | false=>none)
  | .cnt,[.str l,.int .u8 (.ofNat c)]=>some (.int .i64 (.ofNat (Lib.countByte l (UInt8.ofNat c))),s)
  | .idx,[.str l,.int .u8 (.ofNat c)]=>some (.int .i64 (Lib.indexByte l (UInt8.ofNat c)),s)
  | .tru,[]=>some (.bool true,s)
  | .cpy k,[.ptr b 0]=>(match s.at b with
    | some (.row [c,d] ct false)=>(match c,Nat.beq ct k with
      | .nptr,true=>some (.tup [],putO s b (.row [.ptr b 0,d] ct false))
      | .ptr b' 0,true=>(match Nat.beq b' b with | true=>some (.tup [],s) | false=>none)
      | _,_=>none)
    | _=>none)
  | _,_=>none
noncomputable def zjN (p:Pr)(s:S)(x:X)(first caps args:List T):Res (T × S):=
  match first,caps with
  | [], [] => (match extT p s x args with | some r => .ok r | none => .bad "extern")
  | _, _ => .bad "extern"
noncomputable def callF (p:Pr)(self:zu)(g:FuncId)(first caps args:List T)(s:S):Res (T × S):=
  match p.ext g with
  | .no=>zfQ p self g (first++args++caps) s
  | x=>zjN p s x first caps args
noncomputable def zc2 (p:Pr)(self:zu):zan:=fun f args s=>
  match f with
  | .func (.func g) first caps=>callF p self g first caps args s
  | .func (.yield l) [] []=>ze1 self l args s
  | _ => .bad "callee"
noncomputable def callG (p:Pr)(self:zu):zan:=fun f args s=>
  match f with
  | .func (.func g) first caps=>zfQ p self g (first++args++caps) s
  | _ => .bad "callee"
noncomputable def around (ro:Option Nat)(d:List Nat)(s:S):Option (Nat × List Nat × S):=
  match ro with
  | some l=>match zb2 s l with | some r=>some (r.df,d,s) | none=>none
  | none=>some (s.nx,s.nx::d,newO s (.defs true))
noncomputable def rangeF (p:Pr)(self:zu)(m:Fm)(ro:Option Nat)(g:T)(ps:List Tmp)(a b:Code)(e:E)(d:List Nat)(s:S):Res Out:=
  match around ro d s with
  | some (df,d,s)=>match callG p self g [.func (.yield s.nx) [] []] (newO s (.loop .ready none m.dp m.n e ps a b df)) with
    | .ok (_,s')=>match zb2 s' s.nx with
      | some r=>match r.st with
        | .busy => .bad "record busy"
        | _=>match r.pend with
          | none=>.ok ⟨.normal,e,d,zbh s' s.nx { r with st:=.exhausted }⟩
          | some j=>self m ro j e d (zbh s' s.nx { r with st:=.exhausted })
      | none => .bad "no record"
    | .bad w=>.bad w
  | none => .bad "around"
noncomputable def doSeq (self:zu)(m:Fm)(ro:Option Nat)(a b:Code)(e:E)(d:List Nat)(s:S):Res Out:=
  match self m ro a e d s with
  | .ok ⟨.normal,e,d,s⟩=>self m ro b e d s
  | r=>r
noncomputable def zkA (self:zu)(m:Fm)(ro:Option Nat)(x:Operand)(a b:Code)(e:E)(d:List Nat)(s:S):Res Out:=
  match opd m e x with
  | some (.bool true)=>self m ro a e d s
  | some (.bool false)=>self m ro b e d s
  | _ => .bad "cond"
noncomputable def zhZ (self:zu)(m:Fm)(ro:Option Nat)(i:Nat)(b:Code)(e:E)(d:List Nat)(s:S):Res Out:=
  match self m ro b e d s with
  | .ok ⟨.exit j,e,d,s⟩=>(match Nat.beq j i with | true=>.ok ⟨.normal,e,d,s⟩ | false=>.ok ⟨.exit j,e,d,s⟩)
  | r=>r
noncomputable def kindOf:Op→Nat
  | .move _=>0
  | .assign _=>0
  | .pick _ _ _=>0
  | .build _ _=>0
  | .nilCheck _=>0
  | .binOp _ _ _ _ _=>0
  | .unOp _ _ _=>0
  | .convert _ _ _=>0
  | .makeFunc _ _ _=>0
  | .slice _ _ _ _ _=>0
  | .fieldAddr _ _ _=>0
  | .field _ _ _=>0
  | .indexAddr _ _ _=>0
  | .index _ _ _=>0
  | .extract _ _=>0
  | .call c=>(match c.callee with | .builtin .len=>0 | .builtin .min=>0 | .builtin .max=>0 | .builtin .cap=>0 | _=>2)
  | .load _ _=>1
  | .lookup _ _ _ _=>1
  | .entry _=>1
  | .alloc _=>3
  | .box _ _=>3
  | .buildSlice _ _ _=>3
  | .makeSlice _ _ _=>3
  | .makeMap _ _=>3
  | _=>2
noncomputable def opsOf:Op→List Operand
  | .move x=>[x]
  | .assign x=>[x]
  | .pick c a b=>[c,a,b]
  | .box _ x=>[x]
  | .build _ ps=>ps.toList.map (·.2)
  | .buildSlice _ _ ps=>ps.toList.map (·.2)
  | .load _ x=>[x]
  | .store _ a x=>[a,x]
  | .nilCheck x=>[x]
  | .binOp _ _ x y _=>[x,y]
  | .unOp _ _ x=>[x]
  | .convert _ _ x=>[x]
  | .makeFunc _ a b=>a.toList++b.toList
  | .makeSlice _ a b=>[a,b]
  | .slice _ x lo hi mx=>x::(lo.toList++hi.toList++mx.toList)
  | .fieldAddr _ x _=>[x]
  | .field _ x _=>[x]
  | .indexAddr _ x i=>[x,i]
  | .index _ x i=>[x,i]
  | .lookup _ x k _=>[x,k]
  | .mapUpdate _ x k v=>[x,k,v]
  | .range _ x=>[x]
  | .next x _=>[x]
  | .extract x _=>[x]
  | .entry x=>[x]
  | .mapEntry _ x k=>[x,k]
  | .entryStore _ x w v=>[x,w,v]
  | .call c=>(match c.callee with | .value f=>[f] | _=>[])++c.args.toList
  | _=>[]
noncomputable def zbI:List Operand→List Tmp
  | []=>[]
  | .tmp t::r=>t::zbI r
  | _::r=>zbI r
noncomputable def looks (all:List Oper)(o:Oper):List Tmp:=
  match o.guard with
  | none=>zbI (opsOf o.op)
  | some (j,_)=>match zaH all j with | some t=>t::zbI (opsOf o.op) | none=>zbI (opsOf o.op)
noncomputable def deps (o:Oper):List Nat:=(o.after.toList.filter fun e=>Region.binds .any e).map fun e=>e.on
noncomputable def hasN (i:Nat):List Nat→Bool
  | []=>false
  | j::r=>match Nat.beq i j with | true=>true | false=>hasN i r
noncomputable def maxN (a b:Nat):Nat:=match Nat.ble a b with | true=>b | false=>a
structure PO where
  k:Nat
  lo:Nat
  hi:Nat
noncomputable def is2 (k:Nat):Bool:=Nat.beq k 2
noncomputable def loOf (ks los:List Nat):List Nat→Nat
  | []=>0
  | d::ds=>maxN (maxN (match ks[d]? with | some k=>(match is2 k with | true=>d+1 | false=>0) | none=>0) (match los[d]? with | some x=>x | none=>0)) (loOf ks los ds)
noncomputable def losGo (ks:List Nat):List Oper→List Nat→List Nat
  | [],los=>los
  | o::os,los=>zaC (loOf ks los (deps o)) fun x=>losGo ks os (los++[x])
noncomputable def hiIn (i n:Nat):List Oper→List Nat→Nat→Nat
  | o::os,hj::r,j=>(match hasN i (deps o) with
    | true=>minN (match is2 (kindOf o.op) with | true=>j | false=>hj) (hiIn i n os r (Nat.succ j))
    | false=>hiIn i n os r (Nat.succ j))
  | _,_,_=>n
noncomputable def hisR (n:Nat):List Oper→Nat→List Oper→List Nat→List Nat
  | [],_,_,acc=>acc
  | o::ro,i,later,acc=>zaC (hiIn (Nat.pred i) n later acc i) fun x=>hisR n ro (Nat.pred i) (o::later) (x::acc)
noncomputable def zipPo:List Nat→List Nat→List Nat→List PO
  | k::ks,l::ls,h::hs=>⟨k,l,h⟩::zipPo ks ls hs
  | _,_,_=>[]
noncomputable def zh6:List Oper→List Nat
  | []=>[]
  | o::os=>zaC (kindOf o.op) fun k=>k::zh6 os
noncomputable def zb6 (ops:List Oper):List PO:=zipPo (zh6 ops) (losGo (zh6 ops) ops []) (hisR ops.length ops.reverse ops.length [] [])
noncomputable def allI {α:Type}(f:Nat→α→Bool):List α→Nat→Bool
  | [],_=>true
  | x::r,i=>match f i x with | true=>allI f r (Nat.succ i) | false=>false
noncomputable def anyI {α:Type}(f:Nat→α→Bool):List α→Nat→Bool
  | [],_=>false
  | x::r,i=>match f i x with | true=>true | false=>anyI f r (Nat.succ i)
noncomputable def loOk (l:List (Oper × PO))(po:PO)(ds:List Nat):Bool:=
  match po.lo with
  | 0=>true
  | c+1=>ds.any fun d=>match l[d]? with
    | some x=>(is2 x.2.k&&Nat.beq c d)||Nat.beq x.2.lo (c+1)
    | none=>false
noncomputable def hiOk (l:List (Oper × PO))(i:Nat)(po:PO):Bool:=
  Nat.ble l.length po.hi||anyI (fun j x=>hasN i (deps x.1)&&((is2 x.2.k&&Nat.beq po.hi j)||Nat.beq x.2.hi po.hi)) l 0
noncomputable def zmg (l:List (Oper × PO))(i:Nat)(po:PO):Bool:=
  match is2 po.k with
  | true=>allI (fun j x=>match Nat.blt j i&&is2 x.2.k with | true=>Nat.blt j po.lo | false=>true) l 0
  | false=>true
noncomputable def zjK (d:Option Tmp)(t:Tmp):Bool:=match d with | some q=>Nat.beq q t | none=>false
noncomputable def zmv (all:List Oper)(l:List (Oper × PO))(i:Nat)(o:Oper):Bool:=
  allI (fun j x=>match x.1.dst with
    | none=>true
    | some q=>Nat.beq i j||(!(zjK o.dst q)&&(!(hasN q (looks all o))||hasN j (deps o)||hasN i (deps x.1)))) l 0
noncomputable def planOk (all:List Oper)(l:List (Oper × PO)):Bool:=
  allI (fun i x=>(deps x.1).all (fun d=>Nat.blt d i)&&Nat.beq x.2.k (kindOf x.1.op)&&Nat.ble x.2.lo i&&loOk l x.2 (deps x.1)&&hiOk l i x.2&&zmg l i x.2&&zmv all l i x.1) l 0
noncomputable def eqT1:T→T→Bool
  | .int k a,.int j b=>beqK k j&&beqI a b
  | .bool true,.bool true=>true
  | .bool false,.bool false=>true
  | .str a,.str b=>beqS a b
  | .nptr,.nptr=>true
  | .ptr a o,.ptr b q=>Nat.beq a b&&Nat.beq o q
  | .nslice,.nslice=>true
  | .slice b o n c,.slice b' o' n' c'=>Nat.beq b b'&&Nat.beq o o'&&Nat.beq n n'&&Nat.beq c c'
  | .own b n,.own b' n'=>Nat.beq b b'&&Nat.beq n n'
  | .sub b o n,.sub b' o' n'=>Nat.beq b b'&&Nat.beq o o'&&Nat.beq n n'
  | .nmap,.nmap=>true
  | .map a,.map b=>Nat.beq a b
  | .nfunc,.nfunc=>true
  | .niface,.niface=>true
  | _,_=>false
noncomputable def eqTs:List T→List T→Bool
  | [],[]=>true
  | a::r,b::q=>eqT1 a b&&eqTs r q
  | _,_=>false
noncomputable def eqT:T→T→Bool
  | .agg a,.agg b=>eqTs a b
  | .tup a,.tup b=>eqTs a b
  | a,b=>eqT1 a b
noncomputable def eqFn:Fn→Fn→Bool
  | .func f,.func g=>Nat.beq f g
  | .yield f,.yield g=>Nat.beq f g
  | _,_=>false
noncomputable def eqF:T→T→Bool
  | .func f a b,.func g c d=>eqFn f g&&eqTs a c&&eqTs b d
  | .empty,.empty=>true
  | a,b=>eqT a b
structure Rec where
  o:Oper
  po:PO
  w:Bool
  t:T
  e:E
  s:S
  b:Nat
  ob:Option VO
noncomputable def sNil:S:=⟨.leaf none,1000000,1000000000⟩
noncomputable def sFix {β:Type}(s:S)(k:S→β):β:=match s with | ⟨V,nx,low⟩=>k ⟨V,nx,low⟩
noncomputable def act:List Rec→Nat→S→S
  | [],_,s=>s
  | r::al,q,s=>match r.ob with
    | some ob=>(match Nat.beq r.po.hi q with | true=>act al q (setV s r.b (some ob) s.nx s.low) | false=>act al q s)
    | none=>act al q s
noncomputable def zd4 (p:Pr)(m:Fm)(cf:zan)(o:Oper)(k:Nat)(e:E)(s sa:S):Res (T × S):=
  match k with
  | 0=>(match zau p m o.op e sNil with
    | some (t,s1)=>(match Nat.beq s1.nx 1000000&&Nat.ble 1000000 s1.low with | true=>.ok (t,s) | false=>.bad o.pos)
    | none=>.bad o.pos)
  | 1=>(match zau p m o.op e s with | some (t,_)=>.ok (t,s) | none=>.bad o.pos)
  | _=>(match Nat.ble s.nx 1000000 with | true=>oper p m cf o.op o.pos e sa | false=>.bad o.pos)
noncomputable def sAt (b:Nat):S:=⟨.leaf none,b,1000000000⟩
noncomputable def zcq (p:Pr)(m:Fm)(o:Oper)(e:E)(b:Nat):Option (T × VO):=
  match zau p m o.op e (sAt b) with
  | some (t,s1)=>(match s1.at b with | some ob=>some (t,ob) | none=>none)
  | none=>none
abbrev DrawK:=List Rec→Nat→E→S→(E→S→List Rec→Res (E × S))→Res (E × S)
noncomputable def zkJ (p:Pr)(m:Fm)(cf:zan)(all:List Oper)(i:Nat)(o:Oper)(po:PO)(ih:DrawK)(al:List Rec)(nb:Nat)(e:E)(s:S)(k:E→S→List Rec→Res (E × S)):Res (E × S):=
  match wants m all o.guard e with
  | some true=>(match Nat.beq po.k 3 with
    | true=>(match zcq p m o e nb with
      | some (t,ob)=>zcD m e o.dst t o.pos s fun e' s'=>ih (⟨o,po,true,t,e,s,nb,some ob⟩::al) (Nat.succ nb) e' s' fun ef sf rs=>k ef sf (⟨o,po,true,t,e,s,nb,some ob⟩::rs)
      | none=>.bad o.pos)
    | false=>(match sFix (act al i s) fun sa=>zd4 p m cf o po.k e s sa with
      | .ok (t,s1)=>zcD m e o.dst t o.pos s1 fun e' s'=>ih al nb e' s' fun ef sf rs=>k ef sf (⟨o,po,true,t,e,s,0,none⟩::rs)
      | .bad w=>.bad w))
  | some false=>zcD m e o.dst zae o.pos s fun e' s'=>ih al nb e' s' fun ef sf rs=>k ef sf (⟨o,po,false,zae,e,s,0,none⟩::rs)
  | none=>.bad o.pos
noncomputable def zkG (p:Pr)(m:Fm)(cf:zan)(all:List Oper)(l:List (Oper × PO)):Nat→DrawK:=
  List.rec (motive:=fun _=>Nat→DrawK) (fun _ _ _ e s k=>k e s []) (fun x _ ih i al nb e s k=>zkJ p m cf all i x.1 x.2 (ih (Nat.succ i)) al nb e s k) l
noncomputable def zg9 (p:Pr)(m:Fm)(r:Rec)(v:S):Bool:=match zau p m r.o.op r.e v with | some (t,_)=>eqF r.t t | none=>false
noncomputable def zfT (p:Pr)(m:Fm)(rs:List Rec)(n:Nat)(sn:S)(r:Rec):Bool:=
  match r.w&&Nat.beq r.po.k 1 with
  | true=>allI (fun q x=>match is2 x.po.k&&Nat.ble r.po.lo q&&Nat.ble q r.po.hi with | true=>zg9 p m r x.s | false=>true) rs 0&&(match Nat.ble r.po.lo n&&Nat.ble n r.po.hi with | true=>zg9 p m r sn | false=>true)
  | false=>true
noncomputable def zdg:List (Oper × PO)→Nat
  | []=>0
  | x::r=>match Nat.beq x.2.k 3 with | true=>Nat.succ (zdg r) | false=>zdg r
noncomputable def zjo (p:Pr)(self:zu)(m:Fm)(ops:Array Oper)(e:E)(d:List Nat)(s:S):Res Out:=
  match planOk ops.toList (ops.toList.zip (zb6 ops.toList))&&Nat.beq (zb6 ops.toList).length ops.toList.length with
  | true=>(match zkG p m (zc2 p self) ops.toList (ops.toList.zip (zb6 ops.toList)) 0 [] s.nx e ⟨s.V,s.nx+zdg (ops.toList.zip (zb6 ops.toList)),s.low⟩ (fun ef sn rs=>
      match rs.all (zfT p m rs rs.length sn) && rs.all (fun r => Nat.ble r.s.nx 1000000) && Nat.ble sn.nx 1000000 with | true => sFix (act rs rs.length sn) fun sf => .ok (ef, sf) | false => .bad "a reading hangs on the order") with
    | .ok (e,s)=>.ok ⟨.normal,e,d,s⟩
    | .bad w=>.bad w)
  | false => .bad "no plan"
noncomputable def zgq (p:Pr)(self:zu)(m:Fm)(ops:Array Oper)(e:E)(d:List Nat)(s:S):Res Out:=
  match zdQ p m (zc2 p self) ops.toList ops.toList e s with
  | .ok (e,s)=>.ok ⟨.normal,e,d,s⟩
  | .bad w=>.bad w
noncomputable def zbQ:Code→Option Tmp
  | .seq a _=>zbQ a
  | .region _ ops false=>match ops.toList with
    | o::_=>(match o.guard,o.op with | none,.next (.tmp t) false=>some t | _,_=>none)
    | []=>none
  | _=>none
noncomputable def dsts:Code→List Tmp
  | .seq a b=>dsts a++dsts b
  | .cond _ a b=>dsts a++dsts b
  | .block _ b=>dsts b
  | .region _ ops _=>ops.toList.filterMap fun o=>o.dst
  | .loop b=>dsts b
  | .scope b=>dsts b
  | .rangeFunc _ ps a b=>ps.toList++dsts a++dsts b
  | _=>[]
noncomputable def asgOf (o:Oper):Option Tmp:=match o.op with | .assign _=>o.dst | _=>none
noncomputable def asgs:Code→List Tmp
  | .seq a b=>asgs a++asgs b
  | .cond _ a b=>asgs a++asgs b
  | .block _ b=>asgs b
  | .region _ ops _=>ops.toList.filterMap asgOf
  | .loop b=>asgs b
  | .scope b=>asgs b
  | .rangeFunc _ _ a b=>asgs a++asgs b
  | _=>[]
noncomputable def forget (m:Fm):List Tmp→E→E
  | [],e=>e
  | t::ts,e=>ite (Nat.ble (Nat.succ t) m.n) (En.setK (Pa.of m.dp t) T.any e fun e=>forget m ts e) (forget m ts e)
noncomputable def isBool (m:Fm)(e:E)(t:Tmp):Bool:=match seeE m e t with | .bool _=>ite (Nat.ble (Nat.succ t) m.n) true false | _=>false
noncomputable def zaS (m:Fm)(e:E)(b:Code):Option (Option Tmp):=
  match (asgs b).filter (isBool m e) with
  | []=>some none
  | [t]=>some (some t)
  | _=>none
noncomputable def zcI (m:Fm)(a:Option Tmp)(v:Bool)(e:E):E:=match a with | none=>e | some t=>En.setK (Pa.of m.dp t) (.bool v) e fun e=>e
noncomputable def zfo (m:Fm)(a:Option Tmp)(e:E):Option Bool:=match a with | none=>some false | some t=>match seeE m e t with | .bool v=>some v | _=>none
noncomputable def zbF (p:Pr)(self:zu)(m:Fm)(ro:Option Nat)(v:T):Code→E→List Nat→S→Res Out
  | .seq a b,e,d,s=>(match zbF p self m ro v a e d s with | .ok ⟨.normal,e,d,s⟩=>self m ro b e d s | r=>r)
  | .region _ ops false,e,d,s=>(match ops.toList with
    | o::rest=>(match zcD m e o.dst v o.pos s (zdQ p m (zc2 p self) ops.toList rest) with | .ok (e,s)=>.ok ⟨.normal,e,d,s⟩ | .bad w=>.bad w)
    | [] => .bad "head")
  | _, _, _, _ => .bad "head"
noncomputable def amO:Option VO→Bool
  | some o=>(match o with | .amap _ _ _=>true | .pick _=>true | _=>false)
  | none=>false
noncomputable def amV:En (Option VO)→Bool:=fun t=>En.rec (motive:=fun _=>Bool) (fun v=>amO v) (fun _ _ a b=>match a with | true=>true | false=>b) t
noncomputable def zfM (m:Fm)(e e':E)(n:Nat):Bool:=
  Nat.rec (motive:=fun _=>Bool) true (fun x ih=>match seeE m e x with
    | .any=>ih
    | t=>match eqF t (seeE m e' x) with | true=>ih | false=>false) n
noncomputable def zeE:List Nat→List Nat→Bool
  | [],[]=>true
  | a::r,b::q=>match Nat.beq a b with | true=>zeE r q | false=>false
  | _,_=>false
noncomputable def zbP (p:Pr)(self:zu)(m:Fm)(ro:Option Nat)(b:Code)(e:E)(d:List Nat)(s:S)(r mp:Nat)(es:List Ent)(j:Nat)(k v:T)(a:Option Tmp)(x:Bool):Option (Bool × Bool):=
  match zbF p self m ro (.tup [.bool true,k,v]) b (zcI m a x e) d (setQ (setQ ⟨s.V,s.nx,1000000000⟩ mp (.amap es j false)) r (.pick mp)) with
  | .ok ⟨.normal,e',d',s'⟩=>match Nat.ble s.nx s'.low&&zfM m e e' m.n&&zeE d d',s'.at mp,zfo m a e' with
    | true,some (.amap _ _ del),some y=>some (del,y)
    | _,_,_=>none
  | _=>none
noncomputable def rounds (p:Pr)(self:zu)(m:Fm)(ro:Option Nat)(b:Code)(e:E)(d:List Nat)(s:S)(r mp:Nat)(a:Option Tmp)(all:List Ent):List Ent→Nat→Option (List Ent × Bool)
  | [],_=>some ([],false)
  | (k,v,w)::es,j=>match zbP p self m ro b e d s r mp all j k v a false with
    | some (del,y)=>match zbP p self m ro b e d s r mp all j k v a true with
      | some (del',y')=>match del == del'&&(y'||a.isNone),rounds p self m ro b e d s r mp a all es (Nat.succ j) with
        | true,some (l,z)=>some (match del with | true=>l | false=>(k,v,w)::l,y||z)
        | _,_=>none
      | none=>none
    | none=>none
noncomputable def zmj (a:Option Tmp)(q:Tmp):Bool:=match a with | some t=>(match Nat.beq t q with | true=>false | false=>true) | none=>true
noncomputable def zhz (p:Pr)(self:zu)(m:Fm)(ro:Option Nat)(b:Code)(e:E)(d:List Nat)(s:S)(q:Tmp)(r mp since last:Nat)(es:List Ent)(clock:Nat):Res Out:=
  match zaS m e b with
  | some a=>match zfo m a e,seeE m (forget m (dsts b) e) q,!amV s.V&&Nat.ble since last&&Nat.ble since clock&&es.all (fun x=>Nat.blt x.2.2 since)&&zmj a q with
    | some x0,.ptr _ _,true=>match rounds p self m ro b (forget m (dsts b) e) d s r mp a es es 0 with
      | some (l,y)=>match zbF p self m ro (.tup [.bool false]) b (zcI m a (x0||y) (forget m (dsts b) e)) d (setV (putO s mp (.map l clock)) r none s.nx (minN (minN s.low mp) r)) with
        | .ok ⟨.normal, _, _, _⟩ => .bad "the range goes on"
        | x=>x
      | none => .bad "rounds"
    | _, _, _ => .bad "accumulator"
  | none => .bad "accumulators"
noncomputable def loopN (self:zu)(m:Fm)(ro:Option Nat)(b:Code)(n:Nat):E→List Nat→S→Res Out:=
  Nat.rec (motive := fun _ => E → List Nat → S → Res Out) (fun _ _ _ => .bad "rounds") (fun _ ih e d s => match self m ro b e d s with
    | .ok ⟨.normal,e,d,s⟩=>ih e d s
    | r=>r) n
noncomputable def zd9 (self:zu)(m:Fm)(ro:Option Nat)(b:Code)(e:E)(d:List Nat)(s:S):Res Out:=loopN self m ro b 1000000 e d s
noncomputable def ze9 (p:Pr)(self:zu)(m:Fm)(ro:Option Nat)(b:Code)(e:E)(d:List Nat)(s:S):Res Out:=
  match zbQ b with
  | none=>zd9 self m ro b e d s
  | some t=>match seeE m e t with
    | .ptr r 0=>match s.at r with
      | some (.miter mp since [] last)=>(match s.at mp with
        | some (.map es clock)=>(match es with | _::_::_=>zhz p self m ro b e d s t r mp since last es clock | _=>zd9 self m ro b e d s)
        | _=>zd9 self m ro b e d s)
      | _=>zd9 self m ro b e d s
    | _=>zd9 self m ro b e d s
noncomputable def zhx (self:zu)(m:Fm)(ro:Option Nat)(b:Code)(e:E)(d:List Nat)(s:S):Res Out:=
  match self m ro b e d s with
  | .ok ⟨.goto _, _, _, _⟩ => .bad "goto"
  | r=>r
noncomputable def zh4 (p:Pr)(self:zu)(m:Fm)(ro:Option Nat)(f:Operand)(ps:Array Tmp)(a b:Code)(e:E)(d:List Nat)(s:S):Res Out:=
  match opd m e f with
  | some g=>rangeF p self m ro g ps.toList a b e d s
  | none => .bad "range"
noncomputable def step (p:Pr)(self:zu):zu:=fun m ro c e d s=>
  match c with
  | .skip=>.ok ⟨.normal,e,d,s⟩
  | .label _=>.ok ⟨.normal,e,d,s⟩
  | .ret=>.ok ⟨.ret,e,d,s⟩
  | .exit i=>.ok ⟨.exit i,e,d,s⟩
  | .goto i=>.ok ⟨.goto i,e,d,s⟩
  | .seq a b=>doSeq self m ro a b e d s
  | .cond x a b=>zkA self m ro x a b e d s
  | .block i b=>zhZ self m ro i b e d s
  | .region _ ops draw=>(match draw with | true=>zjo p self m ops e d s | false=>zgq p self m ops e d s)
  | .loop b=>ze9 p self m ro b e d s
  | .scope b=>zhx self m ro b e d s
  | .rangeFunc f ps a b=>zh4 p self m ro f ps a b e d s
  | .refuse _ => .bad "refused"
noncomputable def runC (p : Pr) (n : Nat) : zu := Nat.rec (motive := fun _ => zu) (fun _ _ _ _ _ _ => .bad "fuel") (fun _ ih => step p ih) n
noncomputable def run (p:Pr)(n:Nat)(f:FuncId)(args:List T)(s:S):Res (T × S):=zg7 p (runC p n) f args s
noncomputable def s0:S:=⟨.leaf none,0,1000000000⟩
end Go.Run
end
