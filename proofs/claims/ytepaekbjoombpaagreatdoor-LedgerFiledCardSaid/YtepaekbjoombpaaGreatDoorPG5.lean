/- Texts joined by pack.py: lemmas for YtepaekbjoombpaaGreatDoorFiled. No condition. -/
import Derived.Test.YtepaekbjoombpaaGreatDoorPG4
import Derived.Laws.CopyRow
import Derived.Shelf.Strings.SlTrimAscii
import Derived.Shelf.Strings.LastIndex
import Derived.Ground.NamesProg
import Derived.Test.YtepaekbjoombpaaGreatDoorProg
import Derived.Lib.ConvBytes
import Derived.Laws.BytesString
set_option linter.unusedSimpArgs false
set_option linter.unusedVariables false
set_option linter.defProp false
section
set_option linter.unusedVariables false
set_option linter.unusedSimpArgs false
namespace Go.Eng
open Go
theorem Upd.trans {a b c:Heap}{g:Nat}(x:Upd a b g)(y:Upd b c g):Upd a c g:=⟨y.size.trans x.size,fun i hi=>(y.old i hi).trans (x.old i hi)⟩
theorem Upd.refl (a:Heap)(g:Nat):Upd a a g:=⟨rfl,fun _ _=>rfl⟩
section apps
variable {P:Program} {h0:Nat} {h:Heap} {er:Env} {ty:TypeId}
structure OwnI (h0:Nat)(h:Heap)(el:TypeId)(a:Option Addr)(len cap:Nat)(xs:List Int):Prop where
  ln:len=xs.length
  ok:(a=none∧len=0∧cap=0)∨∃ g cur,a=some ⟨g,0,none⟩∧h0≤g∧h[g]?=some (.cells cur el (0,0))∧cap≤cur.size∧len≤cap∧cur.toList.take len=ints xs
theorem OwnI.nil (h0:Nat)(h:Heap)(el:TypeId):OwnI h0 h el none 0 0 []:=⟨rfl,.inl ⟨rfl,rfl,rfl⟩⟩
theorem OwnI.ints {el:TypeId}{a:Option Addr}{len cap:Nat}{xs:List Int}(O:OwnI h0 h el a len cap xs):zM h a len xs:=by
  refine⟨O.ln,?_⟩
  rcases O.ok with⟨rfl,h1,_⟩ | ⟨g,cur,rfl,h1,h2,h3,h4,h5⟩
  · left
    have:=O.ln
    have:xs=[]:=List.length_eq_zero_iff.1 (by omega)
    simp [this,Eng.ints]
  · right
    have hl:=O.ln
    refine⟨g,0,cur,el,(0,0),rfl,h2,by rw [zF]; omega,by rw [zF,List.drop_zero,← hl]; exact h5⟩
theorem OwnI.cap {el:TypeId}{a:Option Addr}{len cap:Nat}{xs:List Int}(O:OwnI h0 h el a len cap xs):len≤cap:=by
  rcases O.ok with⟨_,h1,h2⟩ | ⟨g,cur,_,_,_,_,h4,_⟩ <;> omega
theorem OwnI.keep {el:TypeId}{a:Option Addr}{len cap:Nat}{xs:List Int}(O:OwnI h0 h el a len cap xs){h':Heap}(hk:∀ p,a=some p→h'[p.block]?=h[p.block]?):OwnI h0 h' el a len cap xs:=by
  refine⟨O.ln,?_⟩
  rcases O.ok with h1 | ⟨g,cur,rfl,h1,h2,h3⟩
  · exact .inl h1
  · exact .inr ⟨g,cur,rfl,h1,(hk _ rfl).trans h2,h3⟩
theorem OwnI.lt {el:TypeId}{a:Option Addr}{len cap:Nat}{xs:List Int}(O:OwnI h0 h el a len cap xs){p:Addr}(hp:a=some p):p.block<h.size∧h0≤p.block:=by
  rcases O.ok with⟨h1,_⟩ | ⟨g,cur,h1,h2,h3,h4⟩
  · rw [h1] at hp; cases hp
  · rw [h1] at hp; cases hp; exact⟨zN h3,h2⟩
theorem OwnI.ext {el:TypeId}{a:Option Addr}{len cap:Nat}{xs:List Int}(O:OwnI h0 h el a len cap xs){h':Heap}(x:Ext h h'):OwnI h0 h' el a len cap xs:=O.keep fun p hp=>x.old _ (O.lt hp).1
structure App (h h':Heap)(a a':Option Addr):Prop where
  size:h.size≤h'.size
  old:∀ c,c<h.size→(∀ p,a=some p→p.block≠c)→h'[c]?=h[c]?
  to:∀ p,a'=some p→(∃ q,a=some q∧q.block=p.block)∨h.size≤p.block
theorem App.ext {el:TypeId}{a a':Option Addr}{len cap:Nat}{xs:List Int}{h':Heap}(A:App h h' a a')(O:OwnI h0 h el a len cap xs){h1:Heap}(x:Ext h1 h)(hl:h1.size≤h0):Ext h1 h':=
  ⟨Nat.le_trans x.size A.size,fun c hc=>(A.old c (Nat.lt_of_lt_of_le hc x.size) fun p hp heq=>by have:=(O.lt hp).2; omega).trans (x.old c hc)⟩
theorem zki {w:World}{b:Option Addr}{m c k:Nat}{ys:List Int}(H:zM w.heap b m ys)(hk:k≤m):(Builtin.firstCells 1 k (.slice b m c)).run P w=.ok ((Eng.ints ys).take k).toArray w:=by
  cases b with
  | none=>
    rcases H.row with h1 | ⟨g,off,cur,ct,fr,h1,_⟩
    · have:ys=[]:=by simpa [Eng.ints] using h1
      have hl:=H.len
      rw [this] at hl
      obtain rfl:k=0:=by simp at hl; omega
      simp [Builtin.firstCells]
    · cases h1
  | some a=>
    rcases H.row with h1 | ⟨g,off,cur,ct,fr,h1,h2,h3,h4⟩
    · have hy:ys=[]:=by simpa [Eng.ints] using h1
      have hl:=H.len
      rw [hy] at hl
      obtain rfl:k=0:=by simp at hl; omega
      have:=run_firstCells_some (P:=P) w 1 0 a m c [] (by simp) (by simp)
      simpa using this
    · cases h1
      have hl:=H.len
      refine run_firstCells_some w 1 k ⟨g,off,none⟩ m c _ (by rw [List.length_take,zF]; omega) fun j u hu=>?_
      rw [← h4,List.getElem?_take] at hu
      split at hu
      · rw [List.getElem?_take] at hu
        split at hu
        · rw [List.getElem?_drop] at hu
          exact Go.Run.zeA h2 (by simpa using hu)
        · cases hu
      · cases hu
theorem ints_src {ats:Array TypeId}{t2 e2:TypeId}(h1:ats[1]?=some t2)(hu:P.underlying t2=some (.slice e2)){b:Option Addr}{m c:Nat}{ys:List Int}(H:zM h b m ys):Go.Run.Src P ats h 1 m (.slice b m c) (Eng.ints ys):=by
  have hl:=H.len
  refine⟨⟨t2,_,h1,hu,.inl ⟨e2,rfl⟩⟩,fun w _=>by simp [Builtin.lenOf],fun w hw=>?_,fun _ n hn w hw=>?_⟩
  · subst hw
    have:=zki (P:=P) (c:=c) H (Nat.le_refl m)
    rwa [List.take_of_length_le (by rw [zF]; omega)] at this
  · subst hw
    have:=zki (P:=P) (c:=c) H hn
    rwa [Nat.mul_one]
theorem zlb {t t2 el e2:TypeId}{i:TypeInfo}{z:Int}(hu:P.underlying t=some (.slice el))(hu2:P.underlying t2=some (.slice e2))(hi:P.info? el=some i)(hsz:i.size=1)(hby:i.bytes≤8)(hz:i.zero=some (.int .i64 z))
    {x y:Operand} {a b:Option Addr} {len cap m c:Nat} {xs ys:List Int} {K:Value→Heap→Prop} (hx:ev er x=.slice a len cap) (hy:ev er y=.slice b m c) (O:OwnI h0 h el a len cap xs) (h0h:h0≤h.size) (I:zM h b m ys) (hb:len+m≤100000)
    (H:∀ a' cap' h',OwnI h0 h' el a' (len+m) cap' (xs++ys)→App h h' a a'→K (.slice a' (len+m) cap') h'):ze P (.call ⟨.builtin .append,#[x,y],#[t,t2]⟩) ty er h K:=by
  unfold ze
  refine And.intro rfl fun w hw=>?_
  subst hw
  have hlen:(xs++ys).length=len+m:=by rw [List.length_append,← O.ln,← I.len]
  have hs:=ints_src (P:=P) (ats:=#[t,t2]) (c:=c) rfl hu2 I
  have hargs:#[x,y].map (ev er)=#[.slice a len cap,.slice b m c]:=by simp [hx,hy]
  have key:∀ v w',(Builtin.append_ #[t,t2] ty #[.slice a len cap,.slice b m c]).run P w=.ok v w'→Rest w w'→K v w'.heap →
      zaG P w K ((execOp (ev er) { dst := none, op := .call ⟨.builtin .append, #[x, y], #[t, t2]⟩, type := ty, pos := "", after := #[], guard := none }).run P w) := by
    intro v w' h1 h2 h3
    have : (execOp (ev er) { dst := none, op := .call ⟨.builtin .append, #[x, y], #[t, t2]⟩, type := ty, pos := "", after := #[], guard := none }).run P w = .ok (.value v) w' := by
      simp only [execOp,resolve,invoke,builtin,Sem.run_bind,Sem.run_pure,Result.andThen_ok,hargs,h1]
    rw [this]
    exact⟨h3,h2⟩
  have grow : cap < len + m → zaG P w K ((execOp (ev er) { dst := none, op := .call ⟨.builtin .append, #[x, y], #[t, t2]⟩, type := ty, pos := "", after := #[], guard := none }).run P w) := by
    intro hgr
    have g1:=Go.Run.zhA (P:=P) (ty:=ty) (ats:=#[t,t2]) (z:=.int .i64 z) (sLen:=len) (sCap:=cap) (b:=a) (olds:=Eng.ints xs) rfl hu hi hz w (by rw [hsz]; exact hs)
      (fun w' hw'=>by
        have hI:=O.ints
        rw [← hw'] at hI
        have:=zki (P:=P) (c:=cap) hI (Nat.le_refl len)
        rw [List.take_of_length_le (by rw [zF,← O.ln]; omega)] at this
        rw [hsz]
        exact this) hgr (by have:(len+m)*i.bytes≤100000*8:=Nat.mul_le_mul hb hby
                            omega) (by omega)
    refine key _ _ g1 ⟨rfl,rfl,rfl⟩ (H _ _ _ ⟨hlen.symm,.inr ⟨w.heap.size,_,rfl,h0h,zy,?_,grownCap_ge w (len+m) cap el,?_⟩⟩ ⟨by simp,fun c hc _=>?_,fun p hp=>?_⟩)
    · have:=grownCap_ge w (len+m) cap el
      have hzl:(Builtin.zeroCells (Value.int .i64 z).cells (grownCap w (len+m) cap el - (len+m))).size=grownCap w (len+m) cap el - (len+m):=by
        simp [Builtin.zeroCells,Value.cells]
      simp only [List.size_toArray,List.length_append,zF,Array.length_toList,hzl,← O.ln,← I.len]
      omega
    · rw [List.toList_toArray,List.append_assoc,← List.append_assoc,List.take_append_of_le_length]
      · rw [List.take_of_length_le]
        · simp [Eng.ints]
        · rw [List.length_append,zF,zF,← O.ln,← I.len]; omega
      · rw [List.length_append,zF,zF,← O.ln,← I.len]; omega
    · show (w.heap.push _)[c]?=_
      rw [zdp,if_neg (by omega)]
    · cases hp
      exact .inr (Nat.le_refl _)
  rcases O.ok with⟨rfl,rfl,rfl⟩ | ⟨g,cur,rfl,q1,q2,q3,q4,q5⟩
  · by_cases hm:m=0
    · subst hm
      have hy0:ys=[]:=List.length_eq_zero_iff.1 I.len.symm
      have hx0:xs=[]:=List.length_eq_zero_iff.1 O.ln.symm
      have g1:=Go.Run.zh5 (P:=P) (ty:=ty) (ats:=#[t,t2]) rfl hu hi w (x:=.slice b 0 c) (news:=Eng.ints ys) (by rw [hsz]; exact hs)
      exact key _ _ g1 (Rest.refl w) (H none 0 w.heap ⟨by rw [hx0,hy0]; rfl,.inl ⟨rfl,rfl,rfl⟩⟩ ⟨Nat.le_refl _,fun _ _ _=>rfl,fun p hp=>by cases hp⟩)
    · exact grow (by omega)
  · by_cases hr:len+m≤cap
    · have g1:=Go.Run.zfG (P:=P) (ty:=ty) (ats:=#[t,t2]) (sLen:=len) (sCap:=cap) (off:=0) rfl hu hi w (by rw [hsz]; exact hs) q2 (fun u hu=>by
          simp only [Eng.ints,List.mem_map] at hu
          obtain⟨_,_,rfl⟩:=hu
          rfl) hr (by rw [hsz,zF,← I.len]; omega)
      have hheap:(w.setRow g (splice cur.toList (0+len*i.size) (Eng.ints ys)).toArray).heap[g]?=some (.cells (splice cur.toList (0+len*i.size) (Eng.ints ys)).toArray el (0,0)):=by
        have hlt:=zN q2
        have hv:=(Array.getElem?_eq_some_iff.1 q2).2
        simp [World.setRow,Array.getElem_modify,hlt,hv]
      refine key _ _ g1 ⟨rfl,rfl,rfl⟩ (H _ _ _ ⟨hlen.symm,.inr ⟨g,_,rfl,q1,hheap,?_,hr,?_⟩⟩ ⟨by simp [World.setRow],fun c hc hne=>?_,fun p hp=>.inl ⟨p,hp,rfl⟩⟩)
      · simp [splice,hsz,zF,← I.len]; omega
      · rw [List.toList_toArray,hsz,Nat.zero_add,Nat.mul_one,splice,q5]
        rw [List.take_append_of_le_length (by rw [List.length_append,zF,zF,← O.ln,← I.len]; omega),List.take_of_length_le (by rw [List.length_append,zF,zF,← O.ln,← I.len]; omega)]
        simp [Eng.ints]
      · have:g≠c:=hne _ rfl
        simp [World.setRow,Array.getElem?_modify,this]
    · exact grow (by omega)
theorem zkr {t t2 el e2:TypeId}{z:Int}(hu:P.underlying t=some (.slice el))(hu2:P.underlying t2=some (.slice e2))(hi:(P.info? el).isSome=true)(hsz:szT P el=1)(hby:zaD P el≤8)(hz:zO P el=some (.int .i64 z))
    {x y:Operand} {a b:Option Addr} {len cap m c:Nat} {xs ys:List Int} {K:Value→Heap→Prop} (hx:ev er x=.slice a len cap) (hy:ev er y=.slice b m c) (O:OwnI h0 h el a len cap xs) (h0h:h0≤h.size) (I:zM h b m ys) (hb:len+m≤100000)
    (H:∀ a' cap' h',OwnI h0 h' el a' (len+m) cap' (xs++ys)→App h h' a a'→K (.slice a' (len+m) cap') h'):ze P (.call ⟨.builtin .append,#[x,y],#[t,t2]⟩) ty er h K:=by
  obtain⟨i,hi⟩:=Option.isSome_iff_exists.1 hi
  refine zlb hu hu2 hi (by simpa [szT,hi] using hsz) (by simpa [zaD,hi] using hby) (z:=z) (by simpa [zO,hi] using hz) hx hy O h0h I hb H
def NewI (m:Nat)(h':Heap)(el:TypeId)(v:Value)(xs:List Int):Prop:=∃ a cap,v=.slice a xs.length cap∧OwnI m h' el a xs.length cap xs
theorem App.upd {h h':Heap}{a a':Option Addr}{el:TypeId}{len cap:Nat}{xs:List Int}{m c:Nat}{o:Obj}(A:App h h' a a')(O:OwnI m h el a len cap xs)(hc:h[c]?=some o)(hm:c<m):h'[c]?=some o:=
  (A.old c (zN hc) fun p hp=>by have:=(O.lt hp).2; omega).trans hc
theorem OwnI.upd {el:TypeId}{a:Option Addr}{len cap m b:Nat}{xs:List Int}{h h':Heap}(O:OwnI m h el a len cap xs)(u:Upd h h' b)(hb:b<m):OwnI m h' el a len cap xs:=
  O.keep fun p hp=>u.old _ (by have:=(O.lt hp).2; omega)
theorem OwnI.mono {el:TypeId}{a:Option Addr}{len cap m m':Nat}{xs:List Int}{h:Heap}(O:OwnI m h el a len cap xs)(hm:m'≤m):OwnI m' h el a len cap xs:=by
  refine⟨O.ln,?_⟩
  rcases O.ok with h1 | ⟨g,cur,h1,h2,h3⟩
  · exact .inl h1
  · exact .inr ⟨g,cur,h1,by omega,h3⟩
theorem NewI.mono {m m':Nat}{h':Heap}{el:TypeId}{v:Value}{xs:List Int}(N:NewI m h' el v xs)(hm:m'≤m):NewI m' h' el v xs:=by
  obtain⟨a,cap,h1,h2⟩:=N
  exact⟨a,cap,h1,h2.mono hm⟩
theorem NewI.upd {m b:Nat}{h h':Heap}{el:TypeId}{v:Value}{xs:List Int}(N:NewI m h el v xs)(u:Upd h h' b)(hb:b<m):NewI m h' el v xs:=by
  obtain⟨a,cap,h1,h2⟩:=N
  exact⟨a,cap,h1,h2.upd u hb⟩
theorem NewI.ext {m:Nat}{h h':Heap}{el:TypeId}{v:Value}{xs:List Int}(N:NewI m h el v xs)(x:Ext h h'):NewI m h' el v xs:=by
  obtain⟨a,cap,h1,h2⟩:=N
  exact⟨a,cap,h1,h2.ext x⟩
theorem setRow_heap {w:World}{g:Nat}{cur:Array Value}{ct:TypeId}{fr:Nat × Nat}(q:w.heap[g]?=some (.cells cur ct fr))(l:List Value):(w.setRow g l.toArray).heap[g]?=some (.cells l.toArray ct fr)∧Upd w.heap (w.setRow g l.toArray).heap g:=by
  have hlt:=zN q
  have hv:=(Array.getElem?_eq_some_iff.1 q).2
  refine⟨by simp [World.setRow,Array.getElem_modify,hlt,hv],by simp [World.setRow],fun b hb=>?_⟩
  simp [World.setRow,Array.getElem?_modify,Ne.symm hb]
theorem OwnI.block {el:TypeId}{a:Option Addr}{len cap m:Nat}{xs:List Int}{h:Heap}(O:OwnI m h el a len cap xs)(hn:0<len):∃ g tl,a=some ⟨g,0,none⟩∧m≤g∧h[g]?=some (.cells (Eng.ints xs++tl).toArray el (0,0))∧cap≤len+tl.length∧len≤cap∧len=xs.length:=by
  rcases O.ok with⟨_,h1,_⟩ | ⟨g,cur,rfl,h1,h2,h3,h4,h5⟩
  · omega
  · refine⟨g,cur.toList.drop len,rfl,h1,?_,by simp; omega,h4,O.ln⟩
    rw [h2,← h5,List.take_append_drop]
section eqs
open Go.Run
theorem zhW {ι:Io}:∀ xs:List Int,VL ι (xs.map (T.int .i64)) (Eng.ints xs)
  | []=>by simp [Eng.ints,VL]
  | x::xs=>by
    have:=zhW (ι:=ι) xs
    simp only [Eng.ints,List.map_cons,VL,VR] at this ⊢
    exact⟨_,_,rfl,rfl,this⟩
theorem ziJ:∀ (xs ys:List Int),xs.length=ys.length→beqF (List.replicate xs.length .i) (xs.map (T.int .i64)) (ys.map (T.int .i64))=some (decide (xs=ys))
  | [],[],_=>rfl
  | x::xs,y::ys,h=>by
    have h1:=ziJ xs ys (by simpa using h)
    have hk:beqK .i64 .i64=true:=rfl
    simp only [List.length_cons,List.replicate_succ,List.map_cons,beqF,scEq,hk]
    by_cases hxy:x=y
    · have hb:beqI x y=true:=by rw [← zfW]; simpa using hxy
      rw [hb,h1]
      simp [hxy]
    · have hb:beqI x y=false:=by rw [← zfW]; simpa using hxy
      rw [hb]
      simp [hxy]
theorem eqAggW {p:Pr}(ok:Ok P p){u yt:TypeId}{ti:TI}(hti:p.ty u=some ti){a b:T}{v w:Value}{r:Bool}(hv:VR (fun _=>none) a v)(hw:VR (fun _=>none) b w)(he:zbj ti a b=some r){op:BinOp}(ho:op=.eql∨op=.neq)
    {x y:Operand} (hx:ev er x=v) (hy:ev er y=w) {K:Value→Heap→Prop} (H:K (.bool (if op=.eql then r else !r)) h):ze P (.binOp op u x y yt) ty er h K:=by
  refine zk rfl _ H fun W hW=>?_
  obtain⟨h1,⟨c,d,rfl,rfl⟩,hg,_⟩:=zbn (ok.tf hti) hv hw he W
  have:(do eqGuard op u x y (.agg c) (.agg d); Go.binOp op u (.agg c) (.agg d):Sem Value).run P W=.ok (.bool (if op=.eql then r else !r)) W:=by
    rcases ho with rfl | rfl <;> simp [eqGuard,hg,Go.binOp,h1]
  simp only [execOp,Sem.run_bind,hx,hy] at this ⊢
  rw [this]
  rfl
end eqs
def Apart (a b:Option Addr):Prop:=∀ p q,a=some p→b=some q→p.block≠q.block
theorem Apart.symm {a b:Option Addr}(H:Apart a b):Apart b a:=fun p q hp hq he=>H q p hq hp he.symm
theorem Apart.app {el2:TypeId}{a a' b:Option Addr}{lb cb mb:Nat}{ys:List Int}{h h':Heap}(hne:Apart a b)(A:App h h' a a')(B:OwnI mb h el2 b lb cb ys):Apart a' b:=by
  intro p q hp hq
  have:=(B.lt hq).1
  rcases A.to p hp with⟨r,hr,he⟩ | h1
  · rw [← he]; exact hne r q hr hq
  · omega
theorem OwnI.apart {el el2:TypeId}{a b:Option Addr}{len cap m lb cb mb:Nat}{xs ys:List Int}{h h':Heap}(O:OwnI m h el a len cap xs)(B:OwnI mb h' el2 b lb cb ys)(hm:h.size≤mb):Apart a b:=by
  intro p q hp hq
  have:=(O.lt hp).1
  have:=(B.lt hq).2
  omega
theorem OwnI.take {el:TypeId}{a:Option Addr}{len cap m:Nat}{xs:List Int}(O:OwnI m h el a len cap xs){k:Nat}(hk:k≤len):OwnI m h el a k cap (xs.take k):=by
  refine⟨by have:=O.ln; simp; omega,?_⟩
  rcases O.ok with⟨h1,h2,h3⟩ | ⟨g,cur,h1,h2,h3,h4,h5,h6⟩
  · exact .inl ⟨h1,by omega,h3⟩
  · refine .inr ⟨g,cur,h1,h2,h3,h4,by omega,?_⟩
    have:(cur.toList.take len).take k=(Eng.ints xs).take k:=by rw [h6]
    rw [List.take_take,show min k len=k by omega] at this
    rw [this]
    simp [Eng.ints,List.map_take]
theorem OwnI.tail {el:TypeId}{len cap m g off:Nat}{xs:List Int}{vs:List Value}{cur:List Value}{h h':Heap}(O:OwnI m h el (some ⟨g,0,none⟩) len cap xs)(hb:h[g]?=some (.cells cur.toArray el (0,0)))(hb':h'[g]?=some (.cells (splice cur off vs).toArray el (0,0)))(ho:len≤off)(hl:off+vs.length≤cur.length):OwnI m h' el (some ⟨g,0,none⟩) len cap xs:=by
  rcases O.ok with⟨h1,_⟩ | ⟨g2,cur2,h1,q1,q2,q3,q4,q5⟩
  · cases h1
  cases h1
  rw [hb] at q2
  cases q2
  refine⟨O.ln,.inr ⟨g,_,rfl,q1,hb',by simp [splice] at q3 ⊢; omega,q4,?_⟩⟩
  rw [← q5]
  simp only [splice,List.append_assoc]
  rw [List.take_append_of_le_length (by rw [List.length_take]; omega),List.take_take]
  congr 1
  omega
section bools
open Go.Run
end bools
end apps
end Go.Eng
end
section
set_option linter.unusedVariables false
set_option linter.unusedSimpArgs false
namespace Go.Eng
open Go
section vrows
variable {P:Program} {h0:Nat} {h:Heap} {er:Env} {ty:TypeId}
structure OwnV (h0:Nat)(h:Heap)(el:TypeId)(s:Nat)(a:Option Addr)(len cap:Nat)(vs:List Value):Prop where
  ln:vs.length=len*s
  ok:(a=none∧len=0∧cap=0)∨∃ g cur,a=some ⟨g,0,none⟩∧h0≤g∧h[g]?=some (.cells cur el (0,0))∧cap*s≤cur.size∧len≤cap∧cur.toList.take (len*s)=vs
theorem OwnV.nil (h0:Nat)(h:Heap)(el:TypeId)(s:Nat):OwnV h0 h el s none 0 0 []:=⟨by simp,.inl ⟨rfl,rfl,rfl⟩⟩
theorem OwnV.row {el:TypeId}{s:Nat}{a:Option Addr}{len cap:Nat}{vs:List Value}(O:OwnV h0 h el s a len cap vs):Row h a vs:=by
  have hl:=O.ln
  rcases O.ok with⟨rfl,h1,_⟩ | ⟨g,cur,rfl,h1,h2,h3,h4,h5⟩
  · left
    rw [h1,Nat.zero_mul] at hl
    exact List.length_eq_zero_iff.1 hl
  · right
    have:len*s≤cap*s:=Nat.mul_le_mul_right _ h4
    exact⟨g,0,cur,el,(0,0),rfl,h2,by omega,by rw [List.drop_zero,hl]; exact h5⟩
theorem OwnV.cap {el:TypeId}{s:Nat}{a:Option Addr}{len cap:Nat}{vs:List Value}(O:OwnV h0 h el s a len cap vs):len≤cap:=by
  rcases O.ok with⟨_,h1,h2⟩ | ⟨g,cur,_,_,_,_,h4,_⟩ <;> omega
theorem OwnV.keep {el:TypeId}{s:Nat}{a:Option Addr}{len cap:Nat}{vs:List Value}(O:OwnV h0 h el s a len cap vs){h':Heap}(hk:∀ p,a=some p→h'[p.block]?=h[p.block]?):OwnV h0 h' el s a len cap vs:=by
  refine⟨O.ln,?_⟩
  rcases O.ok with h1 | ⟨g,cur,rfl,h1,h2,h3⟩
  · exact .inl h1
  · exact .inr ⟨g,cur,rfl,h1,(hk _ rfl).trans h2,h3⟩
theorem OwnV.lt {el:TypeId}{s:Nat}{a:Option Addr}{len cap:Nat}{vs:List Value}(O:OwnV h0 h el s a len cap vs){p:Addr}(hp:a=some p):p.block<h.size∧h0≤p.block:=by
  rcases O.ok with⟨h1,_⟩ | ⟨g,cur,h1,h2,h3,h4⟩
  · rw [h1] at hp; cases hp
  · rw [h1] at hp; cases hp; exact⟨zN h3,h2⟩
theorem OwnV.ext {el:TypeId}{s:Nat}{a:Option Addr}{len cap:Nat}{vs:List Value}(O:OwnV h0 h el s a len cap vs){h':Heap}(x:Ext h h'):OwnV h0 h' el s a len cap vs:=O.keep fun p hp=>x.old _ (O.lt hp).1
theorem OwnV.upd {el:TypeId}{s:Nat}{a:Option Addr}{len cap b:Nat}{vs:List Value}{h':Heap}(O:OwnV h0 h el s a len cap vs)(u:Upd h h' b)(hb:b<h0):OwnV h0 h' el s a len cap vs:=
  O.keep fun p hp=>u.old _ (by have:=(O.lt hp).2; omega)
theorem OwnV.mono {el:TypeId}{s:Nat}{a:Option Addr}{len cap m':Nat}{vs:List Value}(O:OwnV h0 h el s a len cap vs)(hm:m'≤h0):OwnV m' h el s a len cap vs:=by
  refine⟨O.ln,?_⟩
  rcases O.ok with h1 | ⟨g,cur,h1,h2,h3⟩
  · exact .inl h1
  · exact .inr ⟨g,cur,h1,by omega,h3⟩
theorem App.updV {h h':Heap}{a a':Option Addr}{el:TypeId}{s len cap:Nat}{vs:List Value}{m c:Nat}{o:Obj}(A:App h h' a a')(O:OwnV m h el s a len cap vs)(hc:h[c]?=some o)(hm:c<m):h'[c]?=some o:=
  (A.old c (zN hc) fun p hp=>by have:=(O.lt hp).2; omega).trans hc
theorem App.extV {h h' h1:Heap}{a a':Option Addr}{el:TypeId}{s len cap:Nat}{vs:List Value}{m:Nat}(A:App h h' a a')(O:OwnV m h el s a len cap vs)(x:Ext h1 h)(hm:h1.size≤m):Ext h1 h':=
  ⟨Nat.le_trans x.size A.size,fun c hc=>(A.old c (Nat.lt_of_lt_of_le hc x.size) fun p hp=>by have:=(O.lt hp).2; omega).trans (x.old c hc)⟩
theorem zhj {w:World}{b:Option Addr}{m c k s:Nat}{vs:List Value}(H:Row w.heap b vs)(hl:vs.length=m*s)(hk:k≤m):(Builtin.firstCells s k (.slice b m c)).run P w=.ok (vs.take (k*s)).toArray w:=by
  have hks:k*s≤m*s:=Nat.mul_le_mul_right _ hk
  cases b with
  | none=>
    rcases H with h1 | ⟨g,off,cur,ct,fr,h1,_⟩
    · simp [Builtin.firstCells,h1]
    · cases h1
  | some a=>
    rcases H with h1 | ⟨g,off,cur,ct,fr,h1,h2,h3,h4⟩
    · subst h1
      have h0:k*s=0:=by simp at hl; omega
      have:=run_firstCells_some (P:=P) w s k a m c [] (by simp [h0]) (by simp)
      simpa using this
    · cases h1
      refine run_firstCells_some w s k ⟨g,off,none⟩ m c _ (by rw [List.length_take]; omega) fun j u hu=>?_
      rw [← h4,List.getElem?_take] at hu
      split at hu
      · rw [List.getElem?_take] at hu
        split at hu
        · rw [List.getElem?_drop] at hu
          exact Go.Run.zeA h2 (by simpa using hu)
        · cases hu
      · cases hu
theorem row_src {ats:Array TypeId}{t2 e2:TypeId}{s:Nat}(h1:ats[1]?=some t2)(hu:P.underlying t2=some (.slice e2)){b:Option Addr}{m c:Nat}{vs:List Value}(H:Row h b vs)(hl:vs.length=m*s):Go.Run.Src P ats h s m (.slice b m c) vs:=by
  refine⟨⟨t2,_,h1,hu,.inl ⟨e2,rfl⟩⟩,fun w _=>by simp [Builtin.lenOf],fun w hw=>?_,fun _ n hn w hw=>?_⟩
  · subst hw
    have:=zhj (P:=P) (c:=c) H hl (Nat.le_refl m)
    rwa [List.take_of_length_le (by omega)] at this
  · subst hw
    exact zhj (P:=P) (c:=c) H hl hn
theorem zhF (z:Array Value)(n:Nat):(Builtin.zeroCells z n).size=n*z.size:=by simp [Builtin.zeroCells]
theorem zlz {t t2 el e2:TypeId}{i:TypeInfo}{z:Value}{s:Nat}(hu:P.underlying t=some (.slice el))(hu2:P.underlying t2=some (.slice e2))(hi:P.info? el=some i)(hsz:i.size=s)(hz:i.zero=some z)(hzs:z.cells.size=s)
    {x y:Operand} {a b:Option Addr} {len cap m c:Nat} {xs ys:List Value} {K:Value→Heap→Prop} (hx:ev er x=.slice a len cap) (hy:ev er y=.slice b m c) (O:OwnV h0 h el s a len cap xs) (h0h:h0≤h.size) (I:Row h b ys) (hyl:ys.length=m*s) (h1:∀ u∈ys,u.oneCell'=true) (hb:len+m≤1000000) (hby:(len+m)*i.bytes≤1000000)
    (H:∀ a' cap' h',OwnV h0 h' el s a' (len+m) cap' (xs++ys)→App h h' a a'→K (.slice a' (len+m) cap') h'):ze P (.call ⟨.builtin .append,#[x,y],#[t,t2]⟩) ty er h K:=by
  unfold ze
  refine And.intro rfl fun w hw=>?_
  subst hw
  have hxl:=O.ln
  have hlen:(xs++ys).length=(len+m)*s:=by rw [List.length_append,O.ln,hyl,Nat.add_mul]
  have hs:=row_src (P:=P) (ats:=#[t,t2]) (c:=c) rfl hu2 I hyl
  have hargs:#[x,y].map (ev er)=#[.slice a len cap,.slice b m c]:=by simp [hx,hy]
  have key:∀ v w',(Builtin.append_ #[t,t2] ty #[.slice a len cap,.slice b m c]).run P w=.ok v w'→Rest w w'→K v w'.heap →
      zaG P w K ((execOp (ev er) { dst := none, op := .call ⟨.builtin .append, #[x, y], #[t, t2]⟩, type := ty, pos := "", after := #[], guard := none }).run P w) := by
    intro v w' h1 h2 h3
    have : (execOp (ev er) { dst := none, op := .call ⟨.builtin .append, #[x, y], #[t, t2]⟩, type := ty, pos := "", after := #[], guard := none }).run P w = .ok (.value v) w' := by
      simp only [execOp,resolve,invoke,builtin,Sem.run_bind,Sem.run_pure,Result.andThen_ok,hargs,h1]
    rw [this]
    exact⟨h3,h2⟩
  have grow : cap < len + m → zaG P w K ((execOp (ev er) { dst := none, op := .call ⟨.builtin .append, #[x, y], #[t, t2]⟩, type := ty, pos := "", after := #[], guard := none }).run P w) := by
    intro hgr
    have g1:=Go.Run.zhA (P:=P) (ty:=ty) (ats:=#[t,t2]) (z:=z) (sLen:=len) (sCap:=cap) (b:=a) (olds:=xs) rfl hu hi hz w (by rw [hsz]; exact hs)
      (fun w' hw'=>by
        have hI:=O.row
        rw [← hw'] at hI
        have:=zhj (P:=P) (c:=cap) hI O.ln (Nat.le_refl len)
        rw [List.take_of_length_le (by omega)] at this
        rw [hsz]
        exact this) hgr (by omega) (by omega)
    have hge:=grownCap_ge w (len+m) cap el
    refine key _ _ g1 ⟨rfl,rfl,rfl⟩ (H _ _ _ ⟨hlen,.inr ⟨w.heap.size,_,rfl,h0h,zy,?_,hge,?_⟩⟩ ⟨by simp,fun c hc _=>?_,fun p hp=>?_⟩)
    · have e1:(len+m)*s+(grownCap w (len+m) cap el - (len+m))*s=grownCap w (len+m) cap el*s:=by rw [← Nat.add_mul]; congr 1; omega
      simp only [List.size_toArray,List.length_append,Array.length_toList,zhF,hzs,hxl,hyl,Nat.add_mul] at e1 ⊢
      omega
    · rw [List.toList_toArray,List.take_append_of_le_length (by omega),List.take_of_length_le (by omega)]
    · show (w.heap.push _)[c]?=_
      rw [zdp,if_neg (by omega)]
    · cases hp
      exact .inr (Nat.le_refl _)
  rcases O.ok with⟨rfl,rfl,rfl⟩ | ⟨g,cur,rfl,q1,q2,q3,q4,q5⟩
  · by_cases hm:m=0
    · subst hm
      have hy0:ys=[]:=List.length_eq_zero_iff.1 (by simpa using hyl)
      have hx0:xs=[]:=List.length_eq_zero_iff.1 (by simpa using hxl)
      have g1:=Go.Run.zh5 (P:=P) (ty:=ty) (ats:=#[t,t2]) rfl hu hi w (x:=.slice b 0 c) (news:=ys) (by rw [hsz]; exact hs)
      exact key _ _ g1 (Rest.refl w) (H none 0 w.heap ⟨by rw [hx0,hy0]; simp,.inl ⟨rfl,rfl,rfl⟩⟩ ⟨Nat.le_refl _,fun _ _ _=>rfl,fun p hp=>by cases hp⟩)
    · exact grow (by omega)
  · by_cases hr:len+m≤cap
    · have hms:(len+m)*s≤cap*s:=Nat.mul_le_mul_right _ hr
      rw [Nat.add_mul] at hms
      have g1:=Go.Run.zfG (P:=P) (ty:=ty) (ats:=#[t,t2]) (sLen:=len) (sCap:=cap) (off:=0) rfl hu hi w (by rw [hsz]; exact hs) q2 h1 hr (by rw [hsz]; omega)
      refine key _ _ g1 ⟨rfl,rfl,rfl⟩ (H _ _ _ ⟨hlen,.inr ⟨g,_,rfl,q1,(setRow_heap q2 _).1,?_,hr,?_⟩⟩ ⟨by simp [World.setRow],fun c hc hne=>?_,fun p hp=>.inl ⟨p,hp,rfl⟩⟩)
      · simp [splice,hsz]; omega
      · rw [List.toList_toArray,hsz,Nat.zero_add,splice,q5]
        rw [List.take_append_of_le_length (by omega),List.take_of_length_le (by omega)]
      · have:g≠c:=hne _ rfl
        simp [World.setRow,Array.getElem?_modify,this]
    · exact grow (by omega)
theorem zdf {t t2 el e2:TypeId}{z:Value}{s:Nat}(hu:P.underlying t=some (.slice el))(hu2:P.underlying t2=some (.slice e2))(hi:(P.info? el).isSome=true)(hsz:szT P el=s)(hz:zO P el=some z)(hzs:z.cells.size=s)
    {x y:Operand} {a b:Option Addr} {len cap m c:Nat} {xs ys:List Value} {K:Value→Heap→Prop} (hx:ev er x=.slice a len cap) (hy:ev er y=.slice b m c) (O:OwnV h0 h el s a len cap xs) (h0h:h0≤h.size) (I:Row h b ys) (hyl:ys.length=m*s) (h1:∀ u∈ys,u.oneCell'=true) (hb:len+m≤1000000) (hby:(len+m)*zaD P el≤1000000)
    (H:∀ a' cap' h',OwnV h0 h' el s a' (len+m) cap' (xs++ys)→App h h' a a'→K (.slice a' (len+m) cap') h'):ze P (.call ⟨.builtin .append,#[x,y],#[t,t2]⟩) ty er h K:=by
  obtain⟨i,hi⟩:=Option.isSome_iff_exists.1 hi
  refine zlz hu hu2 hi (by simpa [szT,hi] using hsz) (z:=z) (by simpa [zO,hi] using hz) hzs hx hy O h0h I hyl h1 hb (by simpa [zaD,hi] using hby) H
end vrows
section steps
variable {l:Option Nat} {P:Program} {e:Env} {d:List Deferred} {h:Heap} {k:Cont}
theorem WP_seq {a b:Code}(H:WP l P a (zc0 (fun e d h=>WP l P b k e d h) k) e d h):WP l P (.seq a b) k e d h:=by
  unfold WP at *
  refine fun w hw=>wpIn_seq (wpIn_mono (H w hw) ?_)
  rintro x a' w' ⟨hq,hr⟩
  unfold zc0 at hq
  cases x with
  | normal=>
    have h2:=hq w' rfl
    rw [zaN] at h2
    exact wpIn_mono h2 fun x a w'' q=>⟨q.1,hr.trans q.2⟩
  | _=>exact⟨hq,hr⟩
theorem zlL {c:Operand}{x y:Code}{b:Bool}(hb:ev e c=.bool b)(H:WP l P (if b then x else y) k e d h):WP l P (.cond c x y) k e d h:=by
  unfold WP at *
  refine fun w hw=>wpIn_cond_split (t:=b) (by rw [zaw]; exact hb) (fun ht=>?_) (fun ht=>?_)
  · subst ht; exact H w hw
  · subst ht; exact H w hw
def execJ (P:Program)(all:List Oper):Nat→List Oper→Cont→Env→List Deferred→Heap→Prop
  | _,[],_,_,_,_=>False
  | 0,o::rest,k,e,d,h=>o.guard=none∧ze P o.op o.type e h (fun v h'=>zaf P all rest k (putE e o.dst v) d h')
  | j+1,o::rest,k,e,d,h=>o.guard=none∧opW P o.op o.type e h (fun v h'=>execJ P all j rest k (putE e o.dst v) d h')
theorem zf3 {all:List Oper}{w0:World}:∀ (j:Nat) (ops:List Oper) (e:Env) (d:List Deferred) (w:World),Eng.Rest w0 w→execJ P all j ops k e d w.heap →
    wpListIn (fen l) 0 P all.toArray (fun x a w'=>k x a.tmps.toList a.defers w'.heap∧Eng.Rest w0 w') ops ⟨e.toArray,d⟩ w
  | j,[],e,d,w,hr,H=>by cases j <;> exact H.elim
  | 0,o::rest,e,d,w,hr,H=>by
    obtain⟨hg,H⟩:=H
    unfold wpListIn
    have hw:Region.wanted o (yielded all.toArray e.toArray)=true:=by simp [Region.wanted,hg]
    simp only [hw,if_true]
    refine zbd (zL ?_ H)
    intro v h' hk w' hw' hr'
    subst hw'
    exact zcx rest _ d w' (hr.trans hr') hk
  | j+1,o::rest,e,d,w,hr,H=>by
    obtain⟨hg,H⟩:=H
    unfold wpListIn
    have hw:Region.wanted o (yielded all.toArray e.toArray)=true:=by simp [Region.wanted,hg]
    simp only [hw,if_true]
    refine zbd (zL ?_ (zl H))
    intro v h' hk w' hw' hr'
    subst hw'
    exact zf3 j rest _ d w' (hr.trans hr') hk
theorem zm2 {id:Nat}{ops:List Oper}(j:Nat)(H:execJ P ops j ops k e d h):WP l P (.region id ops.toArray false) k e d h:=by
  unfold WP
  intro w hw
  subst hw
  exact wpIn_region_list (by have:=zf3 (l:=l) (w0:=w) j ops e d w (Eng.Rest.refl w) H; simpa using this)
end steps
section maps
open Go.Run
variable {P:Program} {h:Heap} {er:Env} {ty:TypeId} {α:Type}
def entM (kv:α→Value)(x:α × Value × Nat):MapEntry:={ key:=kv x.1,val:=x.2.1,born:=x.2.2 }
structure MapV (kv:α→Value)(h:Heap)(b:Nat)(es:List (α × Value × Nat))(c:Nat):Prop where
  obj:h[b]?=some (.map (es.map (entM kv)).toArray c)
  born:(es.map (·.2.2)).Pairwise (·<·)
  lt:∀ x∈es,x.2.2<c
theorem MapV.empty {kv:α→Value}(h:Heap):MapV kv (h.push (.map #[] 0)) h.size [] 0:=⟨by simp,by simp,by simp⟩
theorem MapV.keep {kv:α→Value}{b c:Nat}{es:List (α × Value × Nat)}{h':Heap}(M:MapV kv h b es c)(hk:h'[b]?=h[b]?):MapV kv h' b es c:=⟨hk.trans M.obj,M.born,M.lt⟩
theorem MapV.ext {kv:α→Value}{b c:Nat}{es:List (α × Value × Nat)}{h':Heap}(M:MapV kv h b es c)(x:Ext h h'):MapV kv h' b es c:=M.keep (x.old _ (zN M.obj))
variable [DecidableEq α]
def getA (a:α):List (α × Value × Nat)→Option Value
  | []=>none
  | x::r=>if a=x.1 then some x.2.1 else getA a r
def putA (a:α)(v:Value)(c:Nat):List (α × Value × Nat)→List (α × Value × Nat)
  | []=>[(a,v,c)]
  | x::r=>if a=x.1 then (a,v,x.2.2)::r else x::putA a v c r
def delA (a:α):List (α × Value × Nat)→List (α × Value × Nat)
  | []=>[]
  | x::r=>if a=x.1 then r else x::delA a r
def clkA (a:α)(es:List (α × Value × Nat))(c:Nat):Nat:=if (getA a es).isSome then c else c+1
theorem zgz {a:α}{v:Value}{c:Nat}:∀ {es:List (α × Value × Nat)},(putA a v c es).map (·.2.2)=es.map (·.2.2)++(if (getA a es).isSome then [] else [c])
  | []=>rfl
  | x::r=>by
    by_cases hx:a=x.1
    · simp [putA,getA,hx]
    · simp [putA,getA,hx,zgz (es:=r)]
theorem zhI {a:α}:∀ {es:List (α × Value × Nat)},(delA a es).Sublist es
  | []=>List.Sublist.refl _
  | x::r=>by
    by_cases hx:a=x.1
    · simp [delA,hx]
    · simp only [delA,hx,if_false]; exact zhI.cons_cons x
theorem MapV.put {kv:α→Value}{b c:Nat}{es:List (α × Value × Nat)}{h':Heap}{a:α}{v:Value}(M:MapV kv h b es c)(ho:h'[b]?=some (.map ((putA a v c es).map (entM kv)).toArray (clkA a es c))):MapV kv h' b (putA a v c es) (clkA a es c):=by
  refine⟨ho,?_,fun x hx=>?_⟩
  · rw [zgz]
    split
    · simpa using M.born
    · rw [List.pairwise_append]
      refine⟨M.born,by simp,fun y hy z hz=>?_⟩
      obtain⟨q,hq,rfl⟩:=List.mem_map.1 hy
      have:=M.lt q hq
      simp at hz
      omega
  · have h1:x.2.2∈(putA a v c es).map (·.2.2):=List.mem_map.2 ⟨x,hx,rfl⟩
    rw [zgz] at h1
    unfold clkA
    rcases List.mem_append.1 h1 with h1 | h1
    · obtain⟨q,hq,hqe⟩:=List.mem_map.1 h1
      have:=M.lt q hq
      split <;> omega
    · split at h1
      · cases h1
      · rename_i hn
        simp at h1
        rw [if_neg hn]
        omega
theorem MapV.del {kv:α→Value}{b c:Nat}{es:List (α × Value × Nat)}{h':Heap}{a:α}(M:MapV kv h b es c)(ho:h'[b]?=some (.map ((delA a es).map (entM kv)).toArray c)):MapV kv h' b (delA a es) c:=
  ⟨ho,M.born.sublist (zhI.map _),fun x hx=>M.lt x (zhI.subset hx)⟩
end maps
end Go.Eng
end
section
namespace Go.Proofs.YtepaekbjoombpaaGreatDoor
open Go Go.Proofs Go.Eng Tab
set_option maxRecDepth 100000
set_option linter.unusedSimpArgs false
set_option linter.unusedVariables false
set_option maxHeartbeats 1000000
set_option linter.defProp false
def zdX:=(And.intro (And.intro (And.intro @agg2 (And.intro @agg3 @by3)) (And.intro @ze3 (And.intro @ze4 @ze2))) (And.intro (And.intro @zgR (And.intro @inf2 @inf3)) (And.intro (And.intro @sz2 @sz3) (And.intro @zfO @Tryz.underlying40))))
def zeW:=(And.intro (And.intro @zef @by26) (And.intro @zcQ (And.intro @sz26 @Tryz.underlying22)))
def A2Fs70:=(And.intro (And.intro (And.intro @agg2 @agg3) (And.intro @ze3 (And.intro @ze4 @ze2))) (And.intro (And.intro @zgR @inf2) (And.intro @inf3 (And.intro @sz2 @sz3))))
def zjq:=(And.intro (And.intro @zef (And.intro @agg3 @zfv)) (And.intro (And.intro @zcQ @inf3) (And.intro @sz26 @sz3)))
def A2Fs75:=(And.intro (And.intro @agg3 @ze3) (And.intro @inf3 @sz3))
def zcK:=(And.intro (And.intro @zef @by26) (And.intro @zcQ (And.intro @sz26 @Tryz.underlying22)))
def A2Fs78:=(And.intro (And.intro @agg3 @ze4) (And.intro @ze2 (And.intro @inf3 @sz3)))
theorem zcJ {h:Eng.Heap}{b:Nat}{x:Int}{ct:TypeId}{fr:Nat × Nat}(hb:h[b]?=some (.cells #[.int .i64 x] ct fr)):zM h (some ⟨b,0,none⟩) 1 [x]:=zM.block (xs:=[x]) hb
theorem pn1 {h:Eng.Heap}{o o':Obj}:((h.push o).push o')[h.size+1]?=some o':=by rw [Array.getElem?_push,if_pos (by simp)]
theorem pn0 {h:Eng.Heap}{o o':Obj}:((h.push o).push o')[h.size]?=some o:=by rw [Array.getElem?_push,if_neg (by simp)]; exact zy
theorem zfz {h:Eng.Heap}{b:Nat}{x y:Int}{ct:TypeId}{fr:Nat × Nat}(hb:h[b]?=some (.cells #[.int .i64 x,.int .i64 y] ct fr)):zM h (some ⟨b,0,none⟩) 2 [x,y]:=zM.block (xs:=[x,y]) hb
theorem za5 {lo hi x:Int}:inB lo hi [x]=decide (lo≤x∧x≤hi):=by simp [inB]
theorem zhT {lo hi x y:Int}:inB lo hi [x,y]=decide ((lo≤x∧x≤hi)∧lo≤y∧y≤hi):=by simp [inB]
structure En where
  d:Int
  f:Int
  t:Int
  a:Int
  deriving DecidableEq
def enV (e:En):List Value:=[.int .i64 e.d,.int .i64 e.f,.int .i64 e.t,.int .i64 e.a]
def ensV (es:List En):List Value:=es.flatMap enV
theorem zfr (e:En)(es:List En):ensV (e::es)=enV e++ensV es:=rfl
theorem zk8 (es fs:List En):ensV (es++fs)=ensV es++ensV fs:=by simp [ensV]
theorem zG (es:List En):(ensV es).length=es.length*4:=by
  induction es with
  | nil=>rfl
  | cons e es ih=>rw [zfr,List.length_append,ih]; simp [enV]; omega
theorem ziq:∀ (es:List En) (j:Nat),(ensV es).drop (j*4)=ensV (es.drop j)
  | es,0=>by simp
  | [],j+1=>by simp [ensV]
  | e::es,j+1=>by
    have e1:(j+1)*4=4+j*4:=by omega
    rw [zfr,e1,← List.drop_drop]
    have:(enV e++ensV es).drop 4=ensV es:=by simp [enV]
    rw [this,ziq es j]; rfl
theorem zim:∀ (es:List En) (j:Nat),(ensV es).take (j*4)=ensV (es.take j)
  | es,0=>by simp [ensV]
  | [],j+1=>by simp [ensV]
  | e::es,j+1=>by
    have e1:(j+1)*4=4+j*4:=by omega
    rw [zfr,e1,List.take_add]
    have h1:(enV e++ensV es).take 4=enV e:=by simp [enV]
    have h2:(enV e++ensV es).drop 4=ensV es:=by simp [enV]
    rw [h1,h2,zim es j]; rfl
theorem zgm (es:List En)(j:Nat)(hj:j<es.length):((ensV es).drop (j*4)).take 4=enV es[j]:=by
  have h1:((ensV es).drop (j*4)).take (1*4)=ensV ((es.drop j).take 1):=by rw [ziq,zim]
  rw [Nat.one_mul] at h1
  rw [h1,List.drop_eq_getElem_cons hj]
  simp only [List.take_succ_cons,List.take_zero,ensV,List.flatMap_cons,List.flatMap_nil,List.append_nil]
theorem zl6 (es:List En)(j k:Nat)(hj:j<es.length)(hk:k<4):(ensV es)[j*4+k]?=(enV es[j])[k]?:=by
  have h:=zgm es j hj
  have:(((ensV es).drop (j*4)).take 4)[k]?=(enV es[j])[k]?:=by rw [h]
  rwa [List.getElem?_take,if_pos hk,List.getElem?_drop] at this
def okE (acc:Int)(e:En):Prop:=(1≤e.d∧e.d≤30)∧(0≤e.f∧e.f<acc)∧(0≤e.t∧e.t<acc)∧(1≤e.a∧e.a≤1000)
instance (acc:Int) (e:En):Decidable (okE acc e):=by unfold okE; infer_instance
theorem stray65 (acc:Int)(e:En)(h:Eng.Heap)(ha:-9223372036854775808<acc∧acc≤9223372036854775807) :
    zb Tryz.prog 65 #[.int .i64 acc,.agg #[.int .i64 e.d,.int .i64 e.f,.int .i64 e.t,.int .i64 e.a]] h (fun v h'=>v=.bool (!decide (okE acc e))∧Ext h h'):=by
  (refine zh Tryz.func65 rfl bod65 ?_; simp only [Tryz.ntmps65,Tryz.results65,za,zm,splice,Value.cells,Value.oneCell',Nat.reduceAdd,Nat.reduceSub,Nat.reduceMul,Nat.reduceLeDiff,Int.reduceEq,Nat.reduceEqDiff,zdX])
  refine zb.mono (zci 1 30 _ 1 1 [e.d] _ (zcJ pn1) (by omega)) ?_
  rintro v h1 ⟨rfl,x1⟩
  have hb1:=x1.get pn0
  have y1:=x1.of_push.of_push
  by_cases hd:1≤e.d∧e.d≤30
  · simp only [za5,hd,hb1,and_self,decide_true,Bool.not_true,splice,za,Value.cells,Value.oneCell',Nat.reduceAdd,Nat.reduceSub,Nat.reduceMul,Nat.reduceLeDiff,Int.reduceEq,Nat.reduceEqDiff,zdX]
    refine⟨by rw [zg]; omega,?_⟩
    refine zb.mono (zci 0 (acc - 1) _ 2 2 [e.f,e.t] _ (zfz zy) (by omega)) ?_
    rintro v h2 ⟨rfl,x2⟩
    have hb2:=(x2.of_push).get hb1
    have y2:=y1.trans x2.of_push
    by_cases hf:(0≤e.f∧e.f≤acc - 1)∧0≤e.t∧e.t≤acc - 1
    · have hok:decide (okE acc e)=(decide (1≤e.a)&&decide (e.a≤1000)):=by
        rw [← Bool.decide_and]
        refine decide_eq_decide.2 ?_
        unfold okE
        omega
      by_cases ha1:e.a<1
      · have ha2:¬ 1≤e.a:=by omega
        simp only [zhT,hf,hb2,ha1,ha2,hok,and_self,decide_true,decide_false,Bool.not_true,Bool.not_false,Bool.false_and,za,Value.cells,Value.oneCell',Nat.reduceAdd,Nat.reduceSub,Nat.reduceMul,Nat.reduceLeDiff,Int.reduceEq,Nat.reduceEqDiff,zdX]
        exact y2
      · have ha2:1≤e.a:=by omega
        have ha3:decide (1000<e.a)=!decide (e.a≤1000):=by by_cases h1:e.a≤1000 <;> simp [h1] <;> omega
        simp only [zhT,hf,hb2,ha1,ha2,hok,ha3,and_self,decide_true,decide_false,Bool.not_true,Bool.not_false,Bool.true_and,za,Value.cells,Value.oneCell',Nat.reduceAdd,Nat.reduceSub,Nat.reduceMul,Nat.reduceLeDiff,Int.reduceEq,Nat.reduceEqDiff,zdX]
        exact y2
    · have hok:¬ okE acc e:=by unfold okE; omega
      simp only [zhT,hf,hok,decide_false,Bool.not_false,za,Value.cells,Value.oneCell',Nat.reduceAdd,Nat.reduceSub,Nat.reduceMul,Nat.reduceLeDiff,Int.reduceEq,Nat.reduceEqDiff,zdX]
      exact y2
  · have hok:¬ okE acc e:=by unfold okE; omega
    simp only [za5,hd,hok,decide_false,Bool.not_false,za,Value.cells,Value.oneCell',Nat.reduceAdd,Nat.reduceSub,Nat.reduceMul,Nat.reduceLeDiff,Int.reduceEq,Nat.reduceEqDiff,zdX]
    exact y1
theorem znv (acc:Int)(e:En)(h:Eng.Heap) :
    zb Tryz.prog 70 #[.int .i64 acc,.agg #[.int .i64 e.d,.int .i64 e.f,.int .i64 e.t,.int .i64 e.a]] h (fun v h'=>v=.int .i64 (if okE acc e then 0 else 3)∧Ext h h'):=by
  (refine zh Tryz.func70 rfl bod70 ?_; simp only [Tryz.ntmps70,Tryz.results70,za,zm,splice,Value.cells,Value.oneCell',Nat.reduceAdd,Nat.reduceSub,Nat.reduceMul,Nat.reduceLeDiff,Int.reduceEq,Nat.reduceEqDiff,A2Fs70])
  have y:Ext h (h.push (.cells #[.int .i64 e.d,.int .i64 e.f,.int .i64 e.t,.int .i64 e.a] 26)):=(Ext.refl h).push _
  refine⟨fun h1=>?_,fun h1=>⟨fun h2=>?_,fun h2=>⟨fun h3=>?_,fun h3=>⟨fun h4=>?_,fun h4=>⟨fun h5=>?_,fun h5=>⟨fun h6=>?_,fun h6=>⟨fun h7=>?_,fun h7=>⟨fun h8=>?_,fun h8=>?_⟩⟩⟩⟩⟩⟩⟩⟩
  all_goals refine⟨?_,y⟩
  case refine_9=>rw [if_pos (by unfold okE; omega)]
  all_goals rw [if_neg (by unfold okE; omega)]
theorem znM (acc cl:Int)(sl:Value)(e:En)(b:Nat)(h:Eng.Heap)(hb:h[b]?=some (.cells #[.int .i64 acc,.int .i64 cl,sl] 24))(ha:-9223372036854775808<acc∧acc≤9223372036854775807) :
    zb Tryz.prog 74 #[.agg #[.int .i64 e.d,.int .i64 e.f,.int .i64 e.t,.int .i64 e.a],.pointer (some ⟨b,0,none⟩)] h (fun v h'=>v=.bool (!decide (okE acc e))∧Ext h h'):=by
  (refine zh Tryz.func74 rfl bod74 ?_; simp only [Tryz.ntmps74,Tryz.results74,za,zm,splice,Value.cells,Value.oneCell',Nat.reduceAdd,Nat.reduceSub,Nat.reduceMul,Nat.reduceLeDiff,Int.reduceEq,Nat.reduceEqDiff,zjq])
  have hne:¬ (b=h.size):=by have:=zN hb; omega
  simp only [hne,hb,if_false,za,Value.cells,Value.oneCell',Nat.reduceAdd,Nat.reduceSub,Nat.reduceMul,Nat.reduceLeDiff,Int.reduceEq,Nat.reduceEqDiff,zjq]
  refine zb.mono (stray65 acc e _ ha) ?_
  rintro v h1 ⟨rfl,x1⟩
  simp only [za,Value.cells,Value.oneCell',Nat.reduceAdd,Nat.reduceSub,Nat.reduceMul,Nat.reduceLeDiff,Int.reduceEq,Nat.reduceEqDiff,zjq]
  exact x1.of_push
theorem zou (x y:En)(h:Eng.Heap)(hd:InK .i64 (x.d - y.d)) :
    zb Tryz.prog 75 #[.agg #[.int .i64 x.d,.int .i64 x.f,.int .i64 x.t,.int .i64 x.a],.agg #[.int .i64 y.d,.int .i64 y.f,.int .i64 y.t,.int .i64 y.a]] h (fun v h'=>v=.int .i64 (x.d - y.d)∧Ext h h'):=by
  (refine zh Tryz.func75 rfl bod75 ?_; simp only [Tryz.ntmps75,Tryz.results75,za,zm,splice,Value.cells,Value.oneCell',Nat.reduceAdd,Nat.reduceSub,Nat.reduceMul,Nat.reduceLeDiff,Int.reduceEq,Nat.reduceEqDiff,A2Fs75])
  exact⟨hd,((Ext.refl h).push _).push _⟩
theorem znC (e:En)(h:Eng.Heap) :
    zb Tryz.prog 78 #[.agg #[.int .i64 e.d,.int .i64 e.f,.int .i64 e.t,.int .i64 e.a]] h (fun v h'=>v=.bool (decide (e.f=e.t))∧Ext h h'):=by
  (refine zh Tryz.func78 rfl bod78 ?_; simp only [Tryz.ntmps78,Tryz.results78,za,zm,splice,Value.cells,Value.oneCell',Nat.reduceAdd,Nat.reduceSub,Nat.reduceMul,Nat.reduceLeDiff,Int.reduceEq,Nat.reduceEqDiff,A2Fs78])
  exact (Ext.refl h).push _
def idxE (p:En→Bool)(es:List En):Int:=match es.findIdx? p with | some i=>i | none=>-1
theorem zoZ {p:En→Bool}{es:List En}(H:∀ e∈es,p e=false):idxE p es=-1:=by
  have:es.findIdx? p=none:=by rw [List.findIdx?_eq_none_iff]; exact fun x hx=>by simp [H x hx]
  simp [idxE,this]
theorem zo4 {p:En→Bool}{es:List En}{i:Nat}(hi:i<es.length)(H:∀ e∈es.take i,p e=false)(hp:p es[i]=true):idxE p es=i:=by
  have:es.findIdx? p=some i:=by
    rw [List.findIdx?_eq_some_iff_getElem]
    refine⟨hi,hp,fun j hj=>?_⟩
    have hj':j<es.length:=by omega
    have:=H es[j] (by rw [List.mem_take_iff_getElem]; exact⟨j,by omega,rfl⟩)
    simp [this]
  simp [idxE,this]
theorem zlm (a:Option Addr)(n c:Nat)(es:List En)(q:FuncId)(caps:Array Value)(p:En→Bool)(h:Eng.Heap)(hr:Row h a (ensV es))(hn:n=es.length)(hl:n≤1000000)
    (hq:∀ e∈es,∀ h',Ext h h'→zb Tryz.prog q (#[]++#[.agg #[.int .i64 e.d,.int .i64 e.f,.int .i64 e.t,.int .i64 e.a]]++caps) h' (fun v h''=>v=.bool (p e)∧Ext h' h'')) :
    zb Tryz.prog 66 #[.slice a n c,.func (.func q) #[] caps] h (fun v h'=>v=.int .i64 (idxE p es)∧Ext h h'):=by
  (refine zh Tryz.func66 rfl bod66 ?_; simp only [Tryz.ntmps66,Tryz.results66,za,zm,splice,Value.cells,Value.oneCell',Nat.reduceAdd,Nat.reduceSub,Nat.reduceMul,Nat.reduceLeDiff,Int.reduceEq,Nat.reduceEqDiff,zeW])
  refine zX [4,5,8,9,10,11,12,13,14,15,16,17,18] (fun g h'=>∃ i:Nat,i≤n∧g 8=.int .i64 i∧(∀ e∈es.take i,p e=false)∧Ext h h') (fun g _=>match g 8 with | .int _ m=>n - m.toNat | _=>0) ?_ ?_
  · exact⟨0,by omega,rfl,by simp,Ext.refl h⟩
  · rintro g h' ⟨i,hin,hg8,hno,hx⟩
    by_cases hi:i<es.length
    · have hsm:a.isSome=true:=hr.isSome (by rw [zG]; omega)
      have hc1:zaL h' (eltP a (i*4)) 4=some [.int .i64 es[i].d,.int .i64 es[i].f,.int .i64 es[i].t,.int .i64 es[i].a]:=by
        have:=(hr.ext hx).cells (j:=i*4) (n:=4) (by rw [zG]; omega) (by omega)
        rw [zgm es i hi] at this
        exact this
      simp only [hg8,hc1,za,Value.cells,Value.oneCell',Nat.reduceAdd,Nat.reduceSub,Nat.reduceMul,Nat.reduceLeDiff,Int.reduceEq,Nat.reduceEqDiff,zeW]
      refine⟨fun hlt=>⟨⟨by omega,by omega⟩,hsm,?_⟩,fun hge=>absurd hge (by omega)⟩
      refine zb.mono (hq _ (List.getElem_mem hi) _ hx) ?_
      rintro v h2 ⟨rfl,hx2⟩
      have htk:es.take (i+1)=es.take i++[es[i]]:=by rw [List.take_add_one,List.getElem?_eq_getElem hi]; rfl
      cases hp:p es[i]
      · simp only [za,Value.cells,Value.oneCell',Nat.reduceAdd,Nat.reduceSub,Nat.reduceMul,Nat.reduceLeDiff,Int.reduceEq,Nat.reduceEqDiff,zeW]
        refine⟨by rw [zg]; omega,zD (by kernel_rfl) ⟨i+1,by omega,rfl,fun e he=>?_,hx.trans hx2⟩ ?_⟩
        · rw [htk,List.mem_append,List.mem_singleton] at he
          rcases he with he | rfl
          · exact hno e he
          · exact hp
        · show n - ((i:Int)+1).toNat<n - (i:Int).toNat
          omega
      · simp only [za,Value.cells,Value.oneCell',Nat.reduceAdd,Nat.reduceSub,Nat.reduceMul,Nat.reduceLeDiff,Int.reduceEq,Nat.reduceEqDiff,zeW]
        exact⟨by rw [zo4 hi hno hp],hx.trans hx2⟩
    · simp only [hg8,za,Value.cells,Value.oneCell',Nat.reduceAdd,Nat.reduceSub,Nat.reduceMul,Nat.reduceLeDiff,Int.reduceEq,Nat.reduceEqDiff,zeW]
      refine⟨fun hlt=>absurd hlt (by omega),fun hge=>?_⟩
      rw [List.take_of_length_le (by omega)] at hno
      exact⟨by rw [zoZ hno],hx⟩
theorem zdU (a:Option Addr)(n c:Nat)(es:List En)(q:FuncId)(caps:Array Value)(p:En→Bool)(h:Eng.Heap)(hr:Row h a (ensV es))(hn:n=es.length)(hl:n≤1000000)
    (hq:∀ e∈es,∀ h',Ext h h'→zb Tryz.prog q (#[]++#[.agg #[.int .i64 e.d,.int .i64 e.f,.int .i64 e.t,.int .i64 e.a]]++caps) h' (fun v h''=>v=.bool (p e)∧Ext h' h'')) :
    zb Tryz.prog 76 #[.slice a n c,.func (.func q) #[] caps] h (fun v h'=>v=.bool (es.any p)∧Ext h h'):=by
  (refine zh Tryz.func76 rfl bod76 ?_; simp only [Tryz.ntmps76,Tryz.results76,za,zm,splice,Value.cells,Value.oneCell',Nat.reduceAdd,Nat.reduceSub,Nat.reduceMul,Nat.reduceLeDiff,Int.reduceEq,Nat.reduceEqDiff])
  refine zb.mono (zlm a n c es q caps p h hr hn hl hq) ?_
  rintro v h2 ⟨rfl,hx⟩
  simp only [za,Value.cells,Value.oneCell',Nat.reduceAdd,Nat.reduceSub,Nat.reduceMul,Nat.reduceLeDiff,Int.reduceEq,Nat.reduceEqDiff]
  refine⟨?_,hx⟩
  congr 1
  unfold idxE
  cases hf:es.findIdx? p with
  | none=>
    rw [List.findIdx?_eq_none_iff] at hf
    have:es.any p=false:=by rw [List.any_eq_false]; intro x hx; simp [hf x hx]
    simp [this]
  | some i=>
    rw [List.findIdx?_eq_some_iff_getElem] at hf
    obtain⟨hi,hp,_⟩:=hf
    have:es.any p=true:=by rw [List.any_eq_true]; exact⟨es[i],List.getElem_mem hi,hp⟩
    simp [this]
theorem rowE {h:Eng.Heap}{a:Option Addr}{es:List En}(hr:Row h a (ensV es)){i:Nat}(hi:i<es.length):zaL h (eltP a (i*4)) 4=some [.int .i64 es[i].d,.int .i64 es[i].f,.int .i64 es[i].t,.int .i64 es[i].a]:=by
  have:=hr.cells (j:=i*4) (n:=4) (by rw [zG]; omega) (by omega)
  rw [zgm es i hi] at this
  exact this
def zcp (es:List En):Prop:=∀ i (hi:i+1<es.length),(es[i]'(by omega)).d≤es[i+1].d
theorem znl (a:Option Addr)(n c:Nat)(es:List En)(h:Eng.Heap)(hr:Row h a (ensV es))(hn:n=es.length)(hl:n≤1000000)(hd:∀ e∈es,0≤e.d∧e.d≤1000000) :
    zb Tryz.prog 77 #[.slice a n c,.func (.func 75) #[] #[]] h (fun v h'=>∃ b:Bool,v=.bool b∧(b=true↔zcp es)∧Ext h h'):=by
  (refine zh Tryz.func77 rfl bod77 ?_; simp only [Tryz.ntmps77,Tryz.results77,za,zm,splice,Value.cells,Value.oneCell',Nat.reduceAdd,Nat.reduceSub,Nat.reduceMul,Nat.reduceLeDiff,Int.reduceEq,Nat.reduceEqDiff,zcK])
  refine⟨by rw [zg]; omega,?_⟩
  refine zX [4,5,9,10,11,12,13,14,15,16,17,18,19,20,21,22,23,24] (fun g h'=>∃ i:Int,-1≤i∧i<n∧g 5=.int .i64 i∧(∀ j (hj:j+1<es.length),i<j+1→(es[j]'(by omega)).d≤es[j+1].d)∧Ext h h') (fun g _=>match g 5 with | .int _ m=>(m+1).toNat | _=>0) ⟨(n:Int) - 1,by omega,by omega,rfl,fun j hj h1=>by omega,Ext.refl h⟩ ?_
  rintro g h' ⟨i,hi1,hin,hg5,hs,hx⟩
  by_cases hi:0<i
  · obtain⟨k,rfl⟩:∃ k:Nat,i=(k:Int)+1:=⟨(i - 1).toNat,by omega⟩
    have hk:k+1<es.length:=by omega
    have hsm:a.isSome=true:=hr.isSome (by rw [zG]; omega)
    have hc1:=rowE (hr.ext hx) hk
    have hc2:=rowE (hr.ext hx) (show k<es.length by omega)
    have t1:((k:Int)+1).toNat=k+1:=by omega
    have t2:((k:Int)+1 - 1)=k:=by omega
    have d1:=hd _ (List.getElem_mem hk)
    have d2:=hd _ (List.getElem_mem (show k<es.length by omega))
    simp only [hg5,hi,decide_true,za,Value.cells,Value.oneCell',Nat.reduceAdd,Nat.reduceSub,Nat.reduceMul,Nat.reduceLeDiff,Int.reduceEq,Nat.reduceEqDiff,zcK]
    refine zco (by kernel_rfl) zc6 [(0,0),(1,0),(2,0),(3,0),(4,0),(5,0),(6,0),(7,0),(8,0),(9,0),(10,0),(11,0)] (by kernel_rfl) rfl (by kernel_rfl) ?_
    simp only [hg5,t1,t2,hc1,hc2,Int.toNat_natCast,za,Value.cells,Value.oneCell',Nat.reduceAdd,Nat.reduceSub,Nat.reduceMul,Nat.reduceLeDiff,Int.reduceEq,Nat.reduceEqDiff,zC,zcK]
    refine⟨by omega,hsm,by rw [zg]; omega,by omega,hsm,?_⟩
    refine zhe _ (fun h2 x2=>zb.mono (zou es[k+1] es[k] h2 (by rw [zg]; omega)) fun v h3 q=>⟨q.1,q.2⟩) ?_
    by_cases hlt:es[k+1].d - es[k].d<0
    · simp only [hlt,decide_true,za,Value.cells,Value.oneCell',Nat.reduceAdd,Nat.reduceSub,Nat.reduceMul,Nat.reduceLeDiff,Int.reduceEq,Nat.reduceEqDiff,zC,zcK]
      refine zcE fun h2 x2=>?_
      simp only [za,Value.cells,Value.oneCell',Nat.reduceAdd,Nat.reduceSub,Nat.reduceMul,Nat.reduceLeDiff,Int.reduceEq,Nat.reduceEqDiff,zC,zcK]
      exact⟨false,rfl,⟨fun hf=>(by cases hf),fun hs=>by have:=hs k hk; omega⟩,hx.trans x2⟩
    · simp only [hlt,decide_false,za,Value.cells,Value.oneCell',Nat.reduceAdd,Nat.reduceSub,Nat.reduceMul,Nat.reduceLeDiff,Int.reduceEq,Nat.reduceEqDiff,zC,zcK]
      refine zcE fun h2 x2=>?_
      simp only [za,Value.cells,Value.oneCell',Nat.reduceAdd,Nat.reduceSub,Nat.reduceMul,Nat.reduceLeDiff,Int.reduceEq,Nat.reduceEqDiff,zC,zcK]
      refine⟨by rw [zg]; omega,zD (by kernel_rfl) ⟨(k:Int)+1 - 1,by omega,by omega,rfl,fun j hj h1=>?_,hx.trans x2⟩ ?_⟩
      · by_cases hjk:j=k
        · subst hjk; omega
        · exact hs j hj (by omega)
      · show ((k:Int)+1 - 1+1).toNat<((k:Int)+1+1).toNat
        omega
  · simp only [hg5,hi,decide_false,za,Value.cells,Value.oneCell',Nat.reduceAdd,Nat.reduceSub,Nat.reduceMul,Nat.reduceLeDiff,Int.reduceEq,Nat.reduceEqDiff,zcK]
    exact⟨true,rfl,⟨fun _ j hj=>hs j hj (by omega),fun _=>rfl⟩,hx⟩
end Go.Proofs.YtepaekbjoombpaaGreatDoor
end
section
namespace Go.Proofs
open Go.Shelf
def Tryz.lays160_ren:Go.Shelf.Ren:=⟨fun | 160=>115 | 232=>140 | 231=>139 | 227=>141 | 234=>143 | 233=>142 | 236=>145 | 235=>144 | 228=>166 | 271=>169 | 151=>168 | 197=>167 | 120=>204 | 152=>203 | 260=>202 | 137=>225 | 119=>226 | 224=>212 | 225=>211 | 217=>210 | 266=>229 | n=>n,fun | 9=>9 | 4=>4 | 3=>3 | 5=>5 | 117=>178 | 116=>177 | 0=>0 | 124=>181 | 21=>21 | 105=>201 | 46=>196 | 119=>252 | 139=>255 | 138=>254 | n=>n,fun | 3=>4 | 4=>5 | n=>n⟩
theorem Tryz.lays160:Go.Proofs.Lays.n160 Tryz.prog Tryz.lays160_ren:={
  mixed:=by kernel_rfl
  f119:=Tryz.func226.trans (congrArg some (by kernel_rfl))
  f120:=Tryz.func204.trans (congrArg some (by kernel_rfl))
  f137:=Tryz.func225.trans (congrArg some (by kernel_rfl))
  f151:=Tryz.func168.trans (congrArg some (by kernel_rfl))
  f152:=Tryz.func203.trans (congrArg some (by kernel_rfl))
  f160:=Tryz.func115.trans (congrArg some (by kernel_rfl))
  f197:=Tryz.func167.trans (congrArg some (by kernel_rfl))
  f217:=Tryz.func210.trans (congrArg some (by kernel_rfl))
  f224:=Tryz.func212.trans (congrArg some (by kernel_rfl))
  f225:=Tryz.func211.trans (congrArg some (by kernel_rfl))
  f227:=Tryz.func141.trans (congrArg some (by kernel_rfl))
  f228:=Tryz.func166.trans (congrArg some (by kernel_rfl))
  f231:=Tryz.func139.trans (congrArg some (by kernel_rfl))
  f232:=Tryz.func140.trans (congrArg some (by kernel_rfl))
  f233:=Tryz.func142.trans (congrArg some (by kernel_rfl))
  f234:=Tryz.func143.trans (congrArg some (by kernel_rfl))
  f235:=Tryz.func144.trans (congrArg some (by kernel_rfl))
  f236:=Tryz.func145.trans (congrArg some (by kernel_rfl))
  f260:=Tryz.func202.trans (congrArg some (by kernel_rfl))
  f266:=Tryz.func229.trans (congrArg some (by kernel_rfl))
  f271:=Tryz.func169.trans (congrArg some (by kernel_rfl))
  t0:=Tryz.underlying0
  a0:=Tryz.isAgg0
  z0:=Tryz.sizeOf0
  v0:=Tryz.zeroValue0
  t3:=Tryz.underlying3
  a3:=Tryz.isAgg3
  z3:=Tryz.sizeOf3
  v3:=Tryz.zeroValue3
  t4:=Tryz.underlying4
  a4:=Tryz.isAgg4
  z4:=Tryz.sizeOf4
  v4:=Tryz.zeroValue4
  t5:=Tryz.underlying5
  a5:=Tryz.isAgg5
  z5:=Tryz.sizeOf5
  v5:=Tryz.zeroValue5
  t9:=Tryz.underlying9
  a9:=Tryz.isAgg9
  z9:=Tryz.sizeOf9
  v9:=Tryz.zeroValue9
  t21:=Tryz.underlying21
  a21:=Tryz.isAgg21
  z21:=Tryz.sizeOf21
  v21:=Tryz.zeroValue21
  t46:=Tryz.underlying196
  a46:=Tryz.isAgg196
  z46:=Tryz.sizeOf196
  v46:=Tryz.zeroValue196
  t105:=Tryz.underlying201
  a105:=Tryz.isAgg201
  z105:=Tryz.sizeOf201
  v105:=Tryz.zeroValue201
  t116:=Tryz.underlying177
  a116:=Tryz.isAgg177
  z116:=Tryz.sizeOf177
  t117:=Tryz.underlying178
  a117:=Tryz.isAgg178
  z117:=Tryz.sizeOf178
  v117:=Tryz.zeroValue178
  t119:=Tryz.underlying252
  a119:=Tryz.isAgg252
  z119:=Tryz.sizeOf252
  t124:=Tryz.underlying181
  a124:=Tryz.isAgg181
  z124:=Tryz.sizeOf181
  v124:=Tryz.zeroValue181
  t138:=Tryz.underlying254
  a138:=Tryz.isAgg254
  z138:=Tryz.sizeOf254
  v138:=Tryz.zeroValue254
  t139:=Tryz.underlying255
  a139:=Tryz.isAgg255
  z139:=Tryz.sizeOf255
  v139:=Tryz.zeroValue255
  g3:=by kernel_rfl
  g4:=by kernel_rfl }
def Tryz.lays149_ren:Go.Shelf.Ren:=⟨fun | 149=>116 | 222=>146 | n=>n,fun | 9=>9 | 5=>5 | 3=>3 | 4=>4 | n=>n,fun | n=>n⟩
theorem Tryz.lays149:Go.Proofs.Lays.n149 Tryz.prog Tryz.lays149_ren:={
  mixed:=by kernel_rfl
  f149:=Tryz.func116.trans (congrArg some (by kernel_rfl))
  f222:=Tryz.func146.trans (congrArg some (by kernel_rfl))
  t3:=Tryz.underlying3
  a3:=Tryz.isAgg3
  z3:=Tryz.sizeOf3
  v3:=Tryz.zeroValue3
  t4:=Tryz.underlying4
  a4:=Tryz.isAgg4
  z4:=Tryz.sizeOf4
  v4:=Tryz.zeroValue4
  t5:=Tryz.underlying5
  a5:=Tryz.isAgg5
  z5:=Tryz.sizeOf5
  v5:=Tryz.zeroValue5
  t9:=Tryz.underlying9
  a9:=Tryz.isAgg9
  z9:=Tryz.sizeOf9
  v9:=Tryz.zeroValue9 }
end Go.Proofs
end
section
set_option linter.unusedVariables false
set_option linter.unusedSimpArgs false
namespace Go.Eng
open Go
attribute [local semireducible] ze opQS zaR setD WP
section bytes
variable {P:Program} {er:Env} {h:Heap} {ty:TypeId}
def strV (s:ByteArray):List Value:=s.data.toList.map fun b=>.int .u8 b.toNat
theorem za3 (s:ByteArray):(strV s).length=s.size:=by rw [strV,List.length_map,Array.length_toList]; rfl
theorem strV_get (s:ByteArray){i:Nat}(hi:i<(strV s).length):(strV s)[i]=.int .u8 (s.data.getD i 0).toNat:=by
  have hi':i<s.data.size:=by simpa [strV] using hi
  rw [Array.getD_eq_getD_getElem?,Array.getElem?_eq_getElem hi',Option.getD_some]
  simp [strV]
theorem zg1 {src dst e:TypeId}(hs:P.underlying src=some .string)(hd:P.underlying dst=some (.slice e))(he:P.underlying e=some (.int .u8)){s:ByteArray}{x:Operand}{Q:Value→Heap→Prop}(hx:ev er x=.string s)
    (H:∀ a c h',s.size≤c→a=some ⟨h.size,0,none⟩→Row h' a (strV s)→Ext h h'→Q (.slice a s.size c) h'):ze P (.convert src dst x) ty er h Q:=by
  unfold ze
  refine And.intro rfl fun w hw=>?_
  subst hw
  have g1:=Lib.run_convert_string_bytes (P:=P) w src dst e s hs hd he
  have h1 : (execOp (ev er) { dst := none, op := .convert src dst x, type := ty, pos := "", after := #[], guard := none }).run P w = .ok (.value (.slice (some ⟨w.heap.size, 0, none⟩) s.size (grownCap w s.size 0 e))) (Lib.bytesWorld w e s) := by
    simp only [execOp,hx,Sem.run_bind,g1,Result.andThen_ok,Sem.run_pure]
  rw [h1]
  refine⟨H _ _ _ (grownCap_ge w s.size 0 e) rfl (.inr ⟨w.heap.size,0,_,_,_,rfl,Lib.bytesWorld_at_new w e s,?_,?_⟩) ⟨by rw [Lib.bytesWorld_size]; omega,fun c hc=>Lib.bytesWorld_at_old w e s c hc⟩,rfl,rfl,rfl⟩
  · rw [za3]; simp [Lib.bytesCells]
  · rw [za3]
    have h2:s.size=(s.data.toList.map fun b=>Value.int .u8 (b.toNat:Int)).length:=by rw [List.length_map,Array.length_toList]; rfl
    rw [List.drop_zero,Lib.bytesCells,Array.toList_append,Array.toList_map,h2,List.take_left']
    · rfl
    · rfl
theorem zhn:∀ (l:List UInt8) (b:ByteArray),((l.map fun x=>(x.toNat:Int)).foldl (fun r n=>r.push (UInt8.ofNat n.toNat)) b).data.toList=b.data.toList++l
  | [],b=>by simp
  | x::l,b=>by
    rw [List.map_cons,List.foldl_cons,zhn l]
    simp [ByteArray.push]
theorem zgW {src dst e:TypeId}(hs:P.underlying src=some (.slice e))(hd:P.underlying dst=some .string)(he:P.underlying e=some (.int .u8)){s:ByteArray}{a:Option Addr}{n c:Nat}{x:Operand}{Q:Value→Heap→Prop}(hx:ev er x=.slice a n c)
    (I:Row h a (strV s)) (hn:n=s.size) (H:Q (.string s) h):ze P (.convert src dst x) ty er h Q:=by
  refine zk rfl _ H fun w hw=>?_
  subst hw
  have g1:=run_convert_bytes_string (P:=P) w src dst e a n c hs he hd
  have g2:(Conv.bytesToString (.slice a n c)).run P w=.ok (.string s) w:=by
    cases a with
    | none=>
      have h0:s.size=0:=by
        rcases I with I | ⟨g,off,cur,ct,fr,h1,_⟩
        · rw [← za3,I]; rfl
        · cases h1
      have:s=ByteArray.empty:=by
        apply ByteArray.ext
        apply Array.eq_empty_of_size_eq_zero
        exact h0
      subst this
      rfl
    | some a=>
      have hf:=zhj (P:=P) (w:=w) (b:=some a) (m:=n) (c:=c) (k:=n) (s:=1) I (by rw [za3,hn,Nat.mul_one]) (Nat.le_refl _)
      have hl:(loadCells a n).run P w=.ok ((s.data.toList.map fun x=>(x.toNat:Int)).map (Value.int .u8)).toArray w:=by
        have e1:(strV s).take (n*1)=(s.data.toList.map fun x=>(x.toNat:Int)).map (Value.int .u8):=by
          rw [List.take_of_length_le (by rw [za3]; omega),List.map_map]; rfl
        rw [e1] at hf
        simpa [Builtin.firstCells] using hf
      rw [run_bytesToString w a n c _ hl]
      congr 2
      apply ByteArray.ext
      apply Array.toList_inj.1
      rw [zhn]
      simp
  simp only [execOp,hx,Sem.run_bind,g1,g2,Result.andThen_ok,Sem.run_pure]
theorem ziX {src dst:TypeId}{k:IntKind}(hs:P.underlying src=some (.int k))(hd:P.underlying dst=some .string){n:Int}{q:IntKind}{x:Operand}{Q:Value→Heap→Prop}(hx:ev er x=.int q n)
    (H:Q (.string (Utf8.encode n)) h):ze P (.convert src dst x) ty er h Q:=by
  refine zk rfl _ H fun w hw=>?_
  subst hw
  simp [execOp,hx,convert,run_underlying hs,run_underlying hd,Conv.intToString,Sem.run_pure]
theorem zk3 {q q2:IntKind}{n:Int}{F:Prop}{K:Value→Heap→Prop}:cvW (.int q n) (some .string) (some (.int q2)) F h K=F:=by unfold cvW; rfl
end bytes
end Go.Eng
end
section
namespace Go.Proofs.YtepaekbjoombpaaGreatDoor
open Go Go.Proofs Go.Eng Tab Go.RowKit
set_option maxRecDepth 100000
set_option linter.unusedSimpArgs false
set_option linter.unusedVariables false
set_option maxHeartbeats 2000000
set_option linter.defProp false
def zfc:=(And.intro (And.intro @Tryz.underlying3 @Tryz.underlying5) (And.intro @Tryz.underlying9 @Tryz.underlying21))
def zfk:=(And.intro (And.intro @by3 (And.intro @inf3 @sz3)) (And.intro @zfO (And.intro @Tryz.underlying9 @Tryz.underlying40)))
def zd0:=(And.intro (And.intro (And.intro @agg5 @by5) (And.intro @inf5 @sz5)) (And.intro (And.intro @zero5 @Tryz.underlying3) (And.intro @Tryz.underlying5 (And.intro @Tryz.underlying9 @Tryz.underlying62))))
theorem zlt {P:Program}{f:FuncId}{args:Array Value}{v:Value}{h:Eng.Heap}(hb:zq P f=true)(H:∀ w:World,Calls P f args w fun e w'=>e=.returned v∧Below w.heap.size w w'):zb P f args h (fun u h'=>u=v∧Ext h h'):=by
  unfold zb zaR
  refine⟨hb,fun w hw=>?_⟩
  refine (H w).mono fun e w' ⟨he,b⟩=>?_
  exact⟨v,he,⟨rfl,by rw [← hw]; exact⟨b.size,fun i hi=>b.block i hi⟩⟩,b.os,b.tape,b.output⟩
theorem zed {P:Program}{f:FuncId}{args:Array Value}{v:Value}{h:Eng.Heap}(hb:zq P f=true)(H:∀ w:World,Calls P f args w fun e w'=>e=.returned v∧w'=w):zb P f args h (fun u h'=>u=v∧h'=h):=by
  unfold zb zaR
  refine⟨hb,fun w hw=>?_⟩
  refine (H w).mono fun e w' ⟨he,b⟩=>?_
  subst b
  exact⟨v,he,⟨rfl,hw⟩,rfl,rfl,rfl⟩
theorem trim115 (s cutset:ByteArray)(h:Eng.Heap)(hs:s.size≤9223372036854775807)(hcs:cutset.size<4294967281)(ha:cutset.data.toList.all (fun b=>decide (b.toNat<128))=true) :
    zb Tryz.prog 115 #[.string s,.string cutset] h (fun v h'=>v=.string ⟨(Lib.trimS s.data.toList cutset.data.toList).toArray⟩∧Ext h h'):=
  zlt (by kernel_rfl) fun w=>Any.strings_Trim_laid Tryz.lays160 (by kernel_rfl) s cutset w hs hcs (ascii_of_all ha)
theorem last116 (s:ByteArray)(c:Int)(h:Eng.Heap)(hs:s.size<4611686018427387904) :
    zb Tryz.prog 116 #[.string s,.int .u8 c] h (fun v h'=>v=.int .i64 (Lib.lastIndexByte s c)∧h'=h):=
  zed (by kernel_rfl) fun w=>Any.strings_LastIndexByte Tryz.lays149 s c hs w
theorem zn {P:Program}{s:Tmp}{w:Bool}{op:Op}{ty:TypeId}{all rest:List Oper}{k:Cont}{dst:Option Tmp}{e:Env}{d:List Deferred}{h:Eng.Heap}:gd P undef s w op ty all rest k dst e d h=zaf P all rest k (putE e dst undef) d h:=zjC
theorem zgH {α:Type}{p:α→Bool}:∀ {l:List α},l.dropWhile p=[]↔∀ b∈l,p b=true
  | []=>by simp
  | x::l=>by
    rw [List.dropWhile_cons]
    split
    · rename_i h
      rw [zgH (l:=l)]
      simp [h]
    · rename_i h
      simp [h]
theorem trim_nil (l cs:List UInt8):Lib.trimS l cs=[]↔∀ b∈l,cs.contains b=true:=by
  unfold Lib.trimS Lib.trimLeftS Lib.trimRightS
  constructor
  · intro H
    have h1:∀ b∈l.reverse.dropWhile (cs.contains ·),cs.contains b=true:=by
      intro b hb
      have hh:=zgH.1 H b (List.mem_reverse.2 hb)
      exact hh
    cases hd:l.reverse.dropWhile (cs.contains ·) with
    | nil=>
      intro b hb
      exact zgH.1 hd b (List.mem_reverse.2 hb)
    | cons x r=>
      have hne:l.reverse.dropWhile (cs.contains ·)≠[]:=by rw [hd]; simp
      have h2:=List.head_dropWhile_not (cs.contains ·) hne
      have h3:=h1 _ (List.head_mem hne)
      rw [h3] at h2
      cases h2
  · intro H
    have:l.reverse.dropWhile (cs.contains ·)=[]:=zgH.2 fun b hb=>H b (List.mem_reverse.1 hb)
    rw [this]; rfl
def txt (b:UInt8):Bool:=b == 32||(decide (48≤b.toNat)&&decide (b.toNat≤57))
def text (s:ByteArray):Bool:=decide (1≤s.size∧s.size≤12)&&s.data.toList.all txt
def dv (b:UInt8):Nat:=if b=32 then 10 else b.toNat - 48
def sumTo (s:ByteArray):Nat→Nat
  | 0=>0
  | n+1=>sumTo s n+(n+1)*dv (s.data.getD n 0)
def zbw (s:ByteArray):ByteArray:=⟨#[UInt8.ofNat (97+sumTo s s.size % 13)]⟩
theorem zbO (s:ByteArray):text s=true↔(1≤s.size∧s.size≤12)∧∀ i,i<s.size→txt (s.data.getD i 0)=true:=by
  rw [text,Bool.and_eq_true,decide_eq_true_eq,List.all_eq_true]
  refine and_congr_right fun _=>⟨fun H i hi=>?_,fun H b hb=>?_⟩
  · have hi':i<s.data.size:=hi
    apply H
    rw [Array.getD_eq_getD_getElem?,Array.getElem?_eq_getElem hi',Option.getD_some,Array.mem_toList_iff]
    exact Array.getElem_mem hi'
  · obtain⟨i,hi,rfl⟩:=Array.mem_iff_getElem.1 (Array.mem_toList_iff.1 hb)
    have:=H i hi
    rwa [Array.getD_eq_getD_getElem?,Array.getElem?_eq_getElem hi,Option.getD_some] at this
theorem dv_le (b:UInt8):dv b≤255:=by
  have:=b.toNat_lt
  unfold dv; split <;> omega
theorem sumTo_le (s:ByteArray):∀ n,n≤12→sumTo s n≤n*3060
  | 0,_=>Nat.le_refl _
  | n+1,h=>by
    have h1:=sumTo_le s n (by omega)
    have h2:(n+1)*dv (s.data.getD n 0)≤12*255:=Nat.mul_le_mul h (dv_le _)
    rw [sumTo]; omega
theorem txt_in:∀ b:UInt8,txt b=([48,49,50,51,52,53,54,55,56,57,32]:List UInt8).contains b:=by
  have key:∀ n:Fin 256,txt (UInt8.ofNat n.1)=([48,49,50,51,52,53,54,55,56,57,32]:List UInt8).contains (UInt8.ofNat n.1):=by decide
  intro b
  have:=key ⟨b.toNat,b.toNat_lt⟩
  simpa using this
theorem isText82 (s:ByteArray)(h:Eng.Heap)(hs:s.size≤9223372036854775807):zb Tryz.prog 82 #[.string s] h (fun v h'=>v=.bool (text s)∧Ext h h'):=by
  (refine zh Tryz.func82 rfl bod82 ?_; simp only [Tryz.ntmps82,Tryz.results82,za,zm,splice,Value.cells,Value.oneCell',Nat.reduceAdd,Nat.reduceSub,Nat.reduceMul,Nat.reduceLeDiff,Int.reduceEq,Nat.reduceEqDiff,zfk])
  refine zb.mono (zci 1 12 (some ⟨h.size,0,none⟩) 1 1 [(s.size:Int)] _ (zcJ zy) (by omega)) ?_
  rintro v h1 ⟨rfl,x1⟩
  have x1':=x1.of_push
  by_cases hl:1≤(s.size:Int)∧(s.size:Int)≤12
  · simp only [za5,hl,decide_true,za,Value.cells,Value.oneCell',Nat.reduceAdd,Nat.reduceSub,Nat.reduceMul,Nat.reduceLeDiff,Int.reduceEq,Nat.reduceEqDiff,zfk]
    refine zb.mono (trim115 s _ h1 hs (by decide) (by decide)) ?_
    rintro v h2 ⟨rfl,x2⟩
    have hi:=trim_nil s.data.toList [48,49,50,51,52,53,54,55,56,57,32]
    have ha:text s=true↔∀ b∈s.data.toList,([48,49,50,51,52,53,54,55,56,57,32]:List UInt8).contains b=true:=by
      rw [text,Bool.and_eq_true,decide_eq_true_eq,List.all_eq_true]
      constructor
      · rintro⟨_,H⟩ b hb; exact (txt_in b).symm.trans (H b hb)
      · exact fun H=>⟨by omega,fun b hb=>(txt_in b).trans (H b hb)⟩
    cases hlt:text s with
    | true=>
      have e:=hi.2 (ha.1 hlt)
      simp only [e,za,Value.cells,Value.oneCell',Nat.reduceAdd,Nat.reduceSub,Nat.reduceMul,Nat.reduceLeDiff,Int.reduceEq,Nat.reduceEqDiff,zfk]
      exact⟨by simp,x1'.trans x2⟩
    | false=>
      have e:¬ Lib.trimS s.data.toList [48,49,50,51,52,53,54,55,56,57,32]=[]:=fun hh=>by rw [ha.2 (hi.1 hh)] at hlt; cases hlt
      have e2:¬ (⟨(Lib.trimS s.data.toList [48,49,50,51,52,53,54,55,56,57,32]).toArray⟩:ByteArray)=⟨#[]⟩:=fun hh=>e (by
        have:=congrArg (fun b:ByteArray=>b.data.toList) hh
        simpa using this)
      simp only [e2,decide_false,za,Value.cells,Value.oneCell',Nat.reduceAdd,Nat.reduceSub,Nat.reduceMul,Nat.reduceLeDiff,Int.reduceEq,Nat.reduceEqDiff,zfk]
      exact x1'.trans x2
  · have ht:text s=false:=by
      rw [Bool.eq_false_iff]
      exact fun hh=>hl (by have:=((zbO s).1 hh).1; omega)
    simp only [za5,hl,ht,zn,decide_false,za,Value.cells,Value.oneCell',Nat.reduceAdd,Nat.reduceSub,Nat.reduceMul,Nat.reduceLeDiff,Int.reduceEq,Nat.reduceEqDiff,zfk]
    exact x1'
theorem zjY (s:ByteArray)(i:Nat):((i:Int)+1)*(dv (s.data.getD i 0):Int)=(((i+1)*dv (s.data.getD i 0):Nat):Int):=by
  rw [Int.natCast_mul]; rfl
theorem sign_enc:∀ r:Nat,r<13→Utf8.encode (97+(r:Int))=⟨#[UInt8.ofNat (97+r)]⟩:=by decide
theorem zmt (a b:Nat):(a:Int).tmod b=((a % b:Nat):Int):=by rw [Int.tmod_eq_emod_of_nonneg (by omega)]; rfl
theorem zkh {b:UInt8}(h:(b.toNat:Int)=32):dv b=10:=by
  have:b=32:=UInt8.toNat_inj.1 (by simpa using (by omega:b.toNat=32))
  rw [dv,if_pos this]
theorem zjL {b:UInt8}(h:¬ (b.toNat:Int)=32)(ht:txt b=true):(b.toNat:Int) - 48=(dv b:Int)∧48≤b.toNat∧b.toNat≤57:=by
  have hb:¬ b=32:=fun e=>h (by rw [e]; rfl)
  have h2:48≤b.toNat∧b.toNat≤57:=by simpa [txt,hb] using ht
  rw [dv,if_neg hb]
  omega
theorem zkH (s:ByteArray)(h:Eng.Heap)(ht:text s=true):zb Tryz.prog 83 #[.string s] h (fun v h'=>v=.string (zbw s)∧Ext h h'):=by
  obtain⟨⟨h1,h12⟩,hb⟩:=(zbO s).1 ht
  (refine zh Tryz.func83 rfl bod83 ?_; simp only [Tryz.ntmps83,Tryz.results83,za,zm,splice,Value.cells,Value.oneCell',Nat.reduceAdd,Nat.reduceSub,Nat.reduceMul,Nat.reduceLeDiff,Int.reduceEq,Nat.reduceEqDiff,zd0])
  refine zg1 Tryz.underlying9 Tryz.underlying62 Tryz.underlying5 (by rfl) fun a c h2 hc _ R2 x2=>?_
  have hsm:a.isSome=true:=R2.isSome (by rw [za3]; omega)
  simp only [za,Value.cells,Value.oneCell',Nat.reduceAdd,Nat.reduceSub,Nat.reduceMul,Nat.reduceLeDiff,Int.reduceEq,Nat.reduceEqDiff,zd0]
  refine zX [3,4,5,6,10,11,12,13,14,15,16,17,18,19,20,21,22,23,24,25,26] (fun g h'=>h'=h2∧∃ i:Nat,i≤s.size∧g 10=.int .i64 i∧g 3=.int .i64 (sumTo s i)) (fun g _=>match g 10 with | .int _ q=>s.size - q.toNat | _=>0) ⟨rfl,0,by omega,rfl,rfl⟩ ?_
  rintro g h' ⟨rfl,i,hin,hg10,hg3⟩
  by_cases hi:i<s.size
  · have hn:=zjY s i
    have hle:=sumTo_le s i (by omega)
    have hle1:=sumTo_le s (i+1) (by omega)
    have hs1:sumTo s (i+1)=sumTo s i+(i+1)*dv (s.data.getD i 0):=rfl
    have hcell:=R2.cell (j:=i) (by rw [za3]; exact hi)
    rw [strV_get] at hcell
    by_cases hbl:((s.data.getD i 0).toNat:Int)=32
    · have hd:=zkh hbl
      rw [hd] at hn hs1
      have hn':((i:Int)+1)*10=(((i+1)*10:Nat):Int):=hn
      simp only [hg10,hg3,hcell,hbl,hn',Int.toNat_natCast,decide_true,Bool.not_true,za,Value.cells,Value.oneCell',Nat.reduceAdd,Nat.reduceSub,Nat.reduceMul,Nat.reduceLeDiff,Int.reduceEq,Nat.reduceEqDiff,zd0]
      refine⟨fun _=>⟨⟨by omega,by omega⟩,hsm,?_⟩,fun hge=>absurd (by omega) hge⟩
      refine⟨by rw [zg]; omega,by rw [zg]; omega,by rw [zg]; omega,by rw [zg]; omega,zD (by kernel_rfl) ⟨rfl,i+1,by omega,rfl,?_⟩ ?_⟩
      · show Value.int .i64 _=_
        rw [hs1]; congr 1
      · show s.size - ((i:Int)+1).toNat<s.size - (i:Int).toNat
        omega
    · obtain⟨hd,hd1,hd2⟩:=zjL hbl (hb i hi)
      simp only [hg10,hg3,hcell,hbl,hd,hn,Int.toNat_natCast,decide_false,Bool.not_false,za,Value.cells,Value.oneCell',Nat.reduceAdd,Nat.reduceSub,Nat.reduceMul,Nat.reduceLeDiff,Int.reduceEq,Nat.reduceEqDiff,zd0]
      refine⟨fun _=>⟨⟨by omega,by omega⟩,hsm,?_⟩,fun hge=>absurd (by omega) hge⟩
      refine⟨by rw [zkc]; omega,by rw [zg]; omega,by rw [zg]; omega,by rw [zg]; omega,by rw [zg]; omega,by rw [zg]; omega,zD (by kernel_rfl) ⟨rfl,i+1,by omega,rfl,?_⟩ ?_⟩
      · show Value.int .i64 _=_
        rw [hs1]; congr 1
      · show s.size - ((i:Int)+1).toNat<s.size - (i:Int).toNat
        omega
  · have hm:=zmt (sumTo s i) 13
    have hm':((sumTo s i:Nat):Int).tmod 13=((sumTo s i % 13:Nat):Int):=hm
    have hr:sumTo s i % 13<13:=Nat.mod_lt _ (by decide)
    have hlt:¬ (i:Int)<s.size:=by omega
    simp only [hg10,hg3,hm',hlt,decide_false,Int.toNat_natCast,za,Value.cells,Value.oneCell',Nat.reduceAdd,Nat.reduceSub,Nat.reduceMul,Nat.reduceLeDiff,Int.reduceEq,Nat.reduceEqDiff,zd0]
    refine⟨by decide,by rw [zg]; omega,by rw [zkc]; omega,?_⟩
    obtain rfl:i=s.size:=by omega
    have hv:strV (zbw s)=[.int .u8 (97+((sumTo s s.size % 13:Nat):Int))]:=by
      have e1:(UInt8.ofNat (97+sumTo s s.size % 13)).toNat=97+sumTo s s.size % 13:=by
        rw [UInt8.toNat_ofNat']; omega
      simp only [strV,zbw,List.map_cons,List.map_nil,e1]
      rfl
    refine zgW (s:=zbw s) (a:=some ⟨h'.size,0,none⟩) (n:=1) (c:=1) Tryz.underlying62 Tryz.underlying9 Tryz.underlying5 (by rfl) (by rw [hv]; exact Row.block zy) rfl ?_
    simp only [za,Value.cells,Value.oneCell',Nat.reduceAdd,Nat.reduceSub,Nat.reduceMul,Nat.reduceLeDiff,Int.reduceEq,Nat.reduceEqDiff,zd0]
    exact x2.trans ((Ext.refl _).push _)
theorem signOf46 (s:ByteArray)(h:Eng.Heap)(ht:text s=true):zb Tryz.prog 46 #[.string s] h (fun v h'=>v=.string (zbw s)∧h'=h):=by
  obtain⟨⟨h1,h12⟩,hb⟩:=(zbO s).1 ht
  (refine zh Tryz.func46 rfl bod46 ?_; simp only [Tryz.ntmps46,Tryz.results46,za,zm,splice,Value.cells,Value.oneCell',Nat.reduceAdd,Nat.reduceSub,Nat.reduceMul,Nat.reduceLeDiff,Int.reduceEq,Nat.reduceEqDiff,zfc])
  refine zX [3,4,5,6,7,8,9,10,11,12,13,14,15,16,17,18,19,20,21,22,23,24,25,26] (fun g h'=>h'=h∧∃ i:Nat,i≤s.size∧g 4=.int .i64 i∧g 3=.int .i64 (sumTo s i)) (fun g _=>match g 4 with | .int _ q=>s.size - q.toNat | _=>0) ⟨rfl,0,by omega,rfl,rfl⟩ ?_
  rintro g h' ⟨rfl,i,hin,hg4,hg3⟩
  by_cases hi:i<s.size
  · have hn:=zjY s i
    have hle:=sumTo_le s i (by omega)
    have hle1:=sumTo_le s (i+1) (by omega)
    have hs1:sumTo s (i+1)=sumTo s i+(i+1)*dv (s.data.getD i 0):=rfl
    by_cases hbl:((s.data.getD i 0).toNat:Int)=32
    · have hd:=zkh hbl
      rw [hd] at hn hs1
      have hn':((i:Int)+1)*10=(((i+1)*10:Nat):Int):=hn
      simp only [hg4,hg3,hbl,hn',Int.toNat_natCast,decide_true,Bool.not_true,za,Value.cells,Value.oneCell',Nat.reduceAdd,Nat.reduceSub,Nat.reduceMul,Nat.reduceLeDiff,Int.reduceEq,Nat.reduceEqDiff,zfc]
      refine⟨fun _=>⟨⟨by omega,by omega⟩,?_⟩,fun hge=>absurd (by omega) hge⟩
      refine⟨by rw [zg]; omega,by rw [zg]; omega,by rw [zg]; omega,by rw [zg]; omega,zD (by kernel_rfl) ⟨rfl,i+1,by omega,rfl,?_⟩ ?_⟩
      · show Value.int .i64 _=_
        rw [hs1]; congr 1
      · show s.size - ((i:Int)+1).toNat<s.size - (i:Int).toNat
        omega
    · obtain⟨hd,hd1,hd2⟩:=zjL hbl (hb i hi)
      simp only [hg4,hg3,hbl,hd,hn,Int.toNat_natCast,decide_false,Bool.not_false,za,Value.cells,Value.oneCell',Nat.reduceAdd,Nat.reduceSub,Nat.reduceMul,Nat.reduceLeDiff,Int.reduceEq,Nat.reduceEqDiff,zfc]
      refine⟨fun _=>⟨⟨by omega,by omega⟩,⟨by omega,by omega⟩,?_⟩,fun hge=>absurd (by omega) hge⟩
      refine⟨by rw [zkc]; omega,by rw [zg]; omega,by rw [zg]; omega,by rw [zg]; omega,by rw [zg]; omega,by rw [zg]; omega,zD (by kernel_rfl) ⟨rfl,i+1,by omega,rfl,?_⟩ ?_⟩
      · show Value.int .i64 _=_
        rw [hs1]; congr 1
      · show s.size - ((i:Int)+1).toNat<s.size - (i:Int).toNat
        omega
  · have hm:=zmt (sumTo s i) 13
    have hm':((sumTo s i:Nat):Int).tmod 13=((sumTo s i % 13:Nat):Int):=hm
    have hr:sumTo s i % 13<13:=Nat.mod_lt _ (by decide)
    simp only [hg4,hg3,hm',zk3,Int.toNat_natCast,za,Value.cells,Value.oneCell',Nat.reduceAdd,Nat.reduceSub,Nat.reduceMul,Nat.reduceLeDiff,Int.reduceEq,Nat.reduceEqDiff,zfc]
    refine⟨fun hlt=>absurd hlt (by omega),fun _=>⟨by decide,by rw [zg]; omega,by rw [inK_i32]; omega,?_⟩⟩
    refine ziX (q:=.i32) (n:=97+((sumTo s i % 13:Nat):Int)) Tryz.underlying21 Tryz.underlying9 (by rfl) ?_
    simp only [za,Value.cells,Value.oneCell',Nat.reduceAdd,Nat.reduceSub,Nat.reduceMul,Nat.reduceLeDiff,Int.reduceEq,Nat.reduceEqDiff,zfc]
    obtain rfl:i=s.size:=by omega
    rw [sign_enc _ hr]
    rfl
theorem isText84 (s:ByteArray)(h:Eng.Heap)(hs:s.size≤9223372036854775807):zb Tryz.prog 84 #[.string s] h (fun v h'=>v=.bool (text s)∧h'=h):=by
  (refine zh Tryz.func84 rfl bod84 ?_; simp only [Tryz.ntmps84,Tryz.results84,za,zm,splice,Value.cells,Value.oneCell',Nat.reduceAdd,Nat.reduceSub,Nat.reduceMul,Nat.reduceLeDiff,Int.reduceEq,Nat.reduceEqDiff,Tryz.underlying9])
  refine zX [2,3,4,5,6,7,8,9,10,11,12,13,14,15,16,17,18,19,20,21,22,23,24,25] (fun g h'=>h'=h∧∃ i:Nat,i≤s.size∧g 3=.int .i64 i∧∀ j,j<i→txt (s.data.getD j 0)=true) (fun g _=>match g 3 with | .int _ q=>s.size - q.toNat | _=>0) ⟨rfl,0,by omega,rfl,fun j hj=>by omega⟩ ?_
  rintro g h' ⟨rfl,i,hin,hg,hno⟩
  by_cases hi:i<s.size
  · have next:txt (s.data.getD i 0)=true→∀ j,j<i+1→txt (s.data.getD j 0)=true:=fun h j hj=>by
      by_cases hji:j=i
      · subst hji; exact h
      · exact hno j (by omega)
    have bad:txt (s.data.getD i 0)=false→text s=false:=fun h=>by
      rw [Bool.eq_false_iff]
      intro hh
      rw [((zbO s).1 hh).2 i hi] at h
      cases h
    by_cases hbl:((s.data.getD i 0).toNat:Int)=32
    · simp only [hg,hbl,zn,Int.toNat_natCast,decide_true,Bool.not_true,za,Value.cells,Value.oneCell',Nat.reduceAdd,Nat.reduceSub,Nat.reduceMul,Nat.reduceLeDiff,Int.reduceEq,Nat.reduceEqDiff,Tryz.underlying9]
      refine⟨fun _=>⟨⟨by omega,by omega⟩,?_⟩,fun hge=>absurd (by omega) hge⟩
      refine⟨by rw [zg]; omega,zD (by kernel_rfl) ⟨rfl,i+1,by omega,rfl,next ?_⟩ ?_⟩
      · have:s.data.getD i 0=32:=UInt8.toNat_inj.1 (by simpa using (by omega:(s.data.getD i 0).toNat=32))
        rw [this]; rfl
      · show s.size - ((i:Int)+1).toNat<s.size - (i:Int).toNat
        omega
    · have hb:¬ s.data.getD i 0=32:=fun e=>hbl (by rw [e]; rfl)
      have hbb:(s.data.getD i 0 == 32)=false:=by simpa using hb
      by_cases hlo:((s.data.getD i 0).toNat:Int)<48
      · simp only [hg,hbl,hlo,zn,Int.toNat_natCast,decide_true,decide_false,Bool.not_false,za,Value.cells,Value.oneCell',Nat.reduceAdd,Nat.reduceSub,Nat.reduceMul,Nat.reduceLeDiff,Int.reduceEq,Nat.reduceEqDiff,Tryz.underlying9]
        refine⟨fun _=>⟨⟨by omega,by omega⟩,⟨by omega,by omega⟩,?_⟩,fun hge=>absurd (by omega) hge⟩
        rw [bad (by rw [txt,hbb,decide_eq_false (by omega)]; rfl)]
      · by_cases hhi:(57:Int)<((s.data.getD i 0).toNat:Int)
        · simp only [hg,hbl,hlo,hhi,zn,Int.toNat_natCast,decide_true,decide_false,Bool.not_false,za,Value.cells,Value.oneCell',Nat.reduceAdd,Nat.reduceSub,Nat.reduceMul,Nat.reduceLeDiff,Int.reduceEq,Nat.reduceEqDiff,Tryz.underlying9]
          refine⟨fun _=>⟨⟨by omega,by omega⟩,⟨by omega,by omega⟩,⟨by omega,by omega⟩,?_⟩,fun hge=>absurd (by omega) hge⟩
          rw [bad (by rw [txt,hbb,decide_eq_true (by omega),decide_eq_false (by omega)]; rfl)]
        · simp only [hg,hbl,hlo,hhi,zn,Int.toNat_natCast,decide_true,decide_false,Bool.not_false,za,Value.cells,Value.oneCell',Nat.reduceAdd,Nat.reduceSub,Nat.reduceMul,Nat.reduceLeDiff,Int.reduceEq,Nat.reduceEqDiff,Tryz.underlying9]
          refine⟨fun _=>⟨⟨by omega,by omega⟩,⟨by omega,by omega⟩,⟨by omega,by omega⟩,?_⟩,fun hge=>absurd (by omega) hge⟩
          refine⟨by rw [zg]; omega,zD (by kernel_rfl) ⟨rfl,i+1,by omega,rfl,next ?_⟩ ?_⟩
          · rw [txt,decide_eq_true (by omega),decide_eq_true (by omega),Bool.and_self,Bool.or_true]
          · show s.size - ((i:Int)+1).toNat<s.size - (i:Int).toNat
            omega
  · have ha:∀ j,j<s.size→txt (s.data.getD j 0)=true:=fun j hj=>hno j (by omega)
    have e1:text s=decide (1≤s.size∧s.size≤12):=by
      rw [Bool.eq_iff_iff,zbO,decide_eq_true_eq]
      exact⟨fun h=>h.1,fun h=>⟨h,ha⟩⟩
    rw [e1]
    have h9:¬ (i:Int)<s.size:=by omega
    by_cases g1:(1:Int)≤s.size
    · have e2:decide (1≤s.size∧s.size≤12)=decide ((s.size:Int)≤12):=decide_eq_decide.2 ⟨fun h=>by omega,fun h=>by omega⟩
      rw [e2]
      simp only [hg,h9,g1,decide_true,decide_false,za,Value.cells,Value.oneCell',Nat.reduceAdd,Nat.reduceSub,Nat.reduceMul,Nat.reduceLeDiff,Int.reduceEq,Nat.reduceEqDiff,Tryz.underlying9]
    · have e2:decide (1≤s.size∧s.size≤12)=false:=decide_eq_false (by omega)
      rw [e2]
      simp only [hg,h9,g1,decide_true,decide_false,za,Value.cells,Value.oneCell',Nat.reduceAdd,Nat.reduceSub,Nat.reduceMul,Nat.reduceLeDiff,Int.reduceEq,Nat.reduceEqDiff,Tryz.underlying9]
end Go.Proofs.YtepaekbjoombpaaGreatDoor
end
