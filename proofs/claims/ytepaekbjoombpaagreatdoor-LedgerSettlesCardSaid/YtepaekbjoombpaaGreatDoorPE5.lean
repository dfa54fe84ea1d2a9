/- Texts joined by pack.py: lemmas for YtepaekbjoombpaaGreatDoorSettles. No condition. -/
import Derived.Test.YtepaekbjoombpaaGreatDoorPE4
import Derived.Laws.CopyRow
set_option linter.unusedSimpArgs false
set_option linter.unusedVariables false
set_option linter.defProp false
section
set_option linter.unusedVariables false
set_option linter.unusedSimpArgs false
namespace Go.Eng
open Go
theorem Upd.trans {a b c:Heap}{g:Nat}(x:Upd a b g)(y:Upd b c g):Upd a c g:=⟨y.size.trans x.size,fun i hi=>(y.old i hi).trans (x.old i hi)⟩
theorem zoc {n:Int}:InK .u64 n=(0≤n∧n≤18446744073709551615):=by simp [InK,IntKind.min,IntKind.max,IntKind.signed,IntKind.bits]
theorem Upd.refl (a:Heap)(g:Nat):Upd a a g:=⟨rfl,fun _ _=>rfl⟩
section apps
variable {P:Program} {h0:Nat} {h:Heap} {er:Env} {ty:TypeId}
structure OwnI (h0:Nat)(h:Heap)(el:TypeId)(a:Option Addr)(len cap:Nat)(xs:List Int):Prop where
  ln:len=xs.length
  ok:(a=none∧len=0∧cap=0)∨∃ g cur,a=some ⟨g,0,none⟩∧h0≤g∧h[g]?=some (.cells cur el (0,0))∧cap≤cur.size∧len≤cap∧cur.toList.take len=ints xs
theorem OwnI.nil (h0:Nat)(h:Heap)(el:TypeId):OwnI h0 h el none 0 0 []:=⟨rfl,.inl ⟨rfl,rfl,rfl⟩⟩
theorem OwnI.ints {el:TypeId}{a:Option Addr}{len cap:Nat}{xs:List Int}(O:OwnI h0 h el a len cap xs):zJ h a len xs:=by
  refine⟨O.ln,?_⟩
  rcases O.ok with⟨rfl,h1,_⟩ | ⟨g,cur,rfl,h1,h2,h3,h4,h5⟩
  · left
    have:=O.ln
    have:xs=[]:=List.length_eq_zero_iff.1 (by omega)
    simp [this,Eng.ints]
  · right
    have hl:=O.ln
    refine⟨g,0,cur,el,(0,0),rfl,h2,by rw [zl]; omega,by rw [zl,List.drop_zero,← hl]; exact h5⟩
theorem OwnI.cap {el:TypeId}{a:Option Addr}{len cap:Nat}{xs:List Int}(O:OwnI h0 h el a len cap xs):len≤cap:=by
  rcases O.ok with⟨_,h1,h2⟩ | ⟨g,cur,_,_,_,_,h4,_⟩ <;> omega
theorem OwnI.keep {el:TypeId}{a:Option Addr}{len cap:Nat}{xs:List Int}(O:OwnI h0 h el a len cap xs){h':Heap}(hk:∀ p,a=some p→h'[p.block]?=h[p.block]?):OwnI h0 h' el a len cap xs:=by
  refine⟨O.ln,?_⟩
  rcases O.ok with h1 | ⟨g,cur,rfl,h1,h2,h3⟩
  · exact .inl h1
  · exact .inr ⟨g,cur,rfl,h1,(hk _ rfl).trans h2,h3⟩
theorem OwnI.lt {el:TypeId}{a:Option Addr}{len cap:Nat}{xs:List Int}(O:OwnI h0 h el a len cap xs){p:Addr}(hp:a=some p):p.block<h.size∧h0≤p.block:=by
  rcases O.ok with⟨h1,_⟩ | ⟨g,cur,h1,h2,h3,h4⟩
  · rw [h1] at hp; cases hp
  · rw [h1] at hp; cases hp; exact⟨zt h3,h2⟩
theorem OwnI.ext {el:TypeId}{a:Option Addr}{len cap:Nat}{xs:List Int}(O:OwnI h0 h el a len cap xs){h':Heap}(x:Ext h h'):OwnI h0 h' el a len cap xs:=O.keep fun p hp=>x.old _ (O.lt hp).1
structure App (h h':Heap)(a a':Option Addr):Prop where
  size:h.size≤h'.size
  old:∀ c,c<h.size→(∀ p,a=some p→p.block≠c)→h'[c]?=h[c]?
  to:∀ p,a'=some p→(∃ q,a=some q∧q.block=p.block)∨h.size≤p.block
theorem App.ext {el:TypeId}{a a':Option Addr}{len cap:Nat}{xs:List Int}{h':Heap}(A:App h h' a a')(O:OwnI h0 h el a len cap xs){h1:Heap}(x:Ext h1 h)(hl:h1.size≤h0):Ext h1 h':=
  ⟨Nat.le_trans x.size A.size,fun c hc=>(A.old c (Nat.lt_of_lt_of_le hc x.size) fun p hp heq=>by have:=(O.lt hp).2; omega).trans (x.old c hc)⟩
theorem zlH {w:World}{b:Option Addr}{m c k:Nat}{ys:List Int}(H:zJ w.heap b m ys)(hk:k≤m):(Builtin.firstCells 1 k (.slice b m c)).run P w=.ok ((Eng.ints ys).take k).toArray w:=by
  cases b with
  | none=>
    rcases H.row with h1 | ⟨g,off,cur,ct,fr,h1,_⟩
    · have:ys=[]:=by simpa [Eng.ints] using h1
      have hl:=H.len
      rw [this] at hl
      obtain rfl:k=0:=by simp at hl; omega
      simp [Builtin.firstCells]
    · cases h1
  | some a=>
    rcases H.row with h1 | ⟨g,off,cur,ct,fr,h1,h2,h3,h4⟩
    · have hy:ys=[]:=by simpa [Eng.ints] using h1
      have hl:=H.len
      rw [hy] at hl
      obtain rfl:k=0:=by simp at hl; omega
      have:=run_firstCells_some (P:=P) w 1 0 a m c [] (by simp) (by simp)
      simpa using this
    · cases h1
      have hl:=H.len
      refine run_firstCells_some w 1 k ⟨g,off,none⟩ m c _ (by rw [List.length_take,zl]; omega) fun j u hu=>?_
      rw [← h4,List.getElem?_take] at hu
      split at hu
      · rw [List.getElem?_take] at hu
        split at hu
        · rw [List.getElem?_drop] at hu
          exact Go.Run.zfA h2 (by simpa using hu)
        · cases hu
      · cases hu
theorem ints_src {ats:Array TypeId}{t2 e2:TypeId}(h1:ats[1]?=some t2)(hu:P.underlying t2=some (.slice e2)){b:Option Addr}{m c:Nat}{ys:List Int}(H:zJ h b m ys):Go.Run.Src P ats h 1 m (.slice b m c) (Eng.ints ys):=by
  have hl:=H.len
  refine⟨⟨t2,_,h1,hu,.inl ⟨e2,rfl⟩⟩,fun w _=>by simp [Builtin.lenOf],fun w hw=>?_,fun _ n hn w hw=>?_⟩
  · subst hw
    have:=zlH (P:=P) (c:=c) H (Nat.le_refl m)
    rwa [List.take_of_length_le (by rw [zl]; omega)] at this
  · subst hw
    have:=zlH (P:=P) (c:=c) H hn
    rwa [Nat.mul_one]
theorem zni {t t2 el e2:TypeId}{i:TypeInfo}{z:Int}(hu:P.underlying t=some (.slice el))(hu2:P.underlying t2=some (.slice e2))(hi:P.info? el=some i)(hsz:i.size=1)(hby:i.bytes≤8)(hz:i.zero=some (.int .i64 z))
    {x y:Operand} {a b:Option Addr} {len cap m c:Nat} {xs ys:List Int} {K:Value→Heap→Prop} (hx:ev er x=.slice a len cap) (hy:ev er y=.slice b m c) (O:OwnI h0 h el a len cap xs) (h0h:h0≤h.size) (I:zJ h b m ys) (hb:len+m≤100000)
    (H:∀ a' cap' h',OwnI h0 h' el a' (len+m) cap' (xs++ys)→App h h' a a'→K (.slice a' (len+m) cap') h'):zg P (.call ⟨.builtin .append,#[x,y],#[t,t2]⟩) ty er h K:=by
  unfold zg
  refine And.intro rfl fun w hw=>?_
  subst hw
  have hlen:(xs++ys).length=len+m:=by rw [List.length_append,← O.ln,← I.len]
  have hs:=ints_src (P:=P) (ats:=#[t,t2]) (c:=c) rfl hu2 I
  have hargs:#[x,y].map (ev er)=#[.slice a len cap,.slice b m c]:=by simp [hx,hy]
  have key:∀ v w',(Builtin.append_ #[t,t2] ty #[.slice a len cap,.slice b m c]).run P w=.ok v w'→Rest w w'→K v w'.heap →
      zaS P w K ((execOp (ev er) { dst := none, op := .call ⟨.builtin .append, #[x, y], #[t, t2]⟩, type := ty, pos := "", after := #[], guard := none }).run P w) := by
    intro v w' h1 h2 h3
    have : (execOp (ev er) { dst := none, op := .call ⟨.builtin .append, #[x, y], #[t, t2]⟩, type := ty, pos := "", after := #[], guard := none }).run P w = .ok (.value v) w' := by
      simp only [execOp,resolve,invoke,builtin,Sem.run_bind,Sem.run_pure,Result.andThen_ok,hargs,h1]
    rw [this]
    exact⟨h3,h2⟩
  have grow : cap < len + m → zaS P w K ((execOp (ev er) { dst := none, op := .call ⟨.builtin .append, #[x, y], #[t, t2]⟩, type := ty, pos := "", after := #[], guard := none }).run P w) := by
    intro hgr
    have g1:=Go.Run.zjK (P:=P) (ty:=ty) (ats:=#[t,t2]) (z:=.int .i64 z) (sLen:=len) (sCap:=cap) (b:=a) (olds:=Eng.ints xs) rfl hu hi hz w (by rw [hsz]; exact hs)
      (fun w' hw'=>by
        have hI:=O.ints
        rw [← hw'] at hI
        have:=zlH (P:=P) (c:=cap) hI (Nat.le_refl len)
        rw [List.take_of_length_le (by rw [zl,← O.ln]; omega)] at this
        rw [hsz]
        exact this) hgr (by have:(len+m)*i.bytes≤100000*8:=Nat.mul_le_mul hb hby
                            omega) (by omega)
    refine key _ _ g1 ⟨rfl,rfl,rfl⟩ (H _ _ _ ⟨hlen.symm,.inr ⟨w.heap.size,_,rfl,h0h,zu,?_,grownCap_ge w (len+m) cap el,?_⟩⟩ ⟨by simp,fun c hc _=>?_,fun p hp=>?_⟩)
    · have:=grownCap_ge w (len+m) cap el
      have hzl:(Builtin.zeroCells (Value.int .i64 z).cells (grownCap w (len+m) cap el - (len+m))).size=grownCap w (len+m) cap el - (len+m):=by
        simp [Builtin.zeroCells,Value.cells]
      simp only [List.size_toArray,List.length_append,zl,Array.length_toList,hzl,← O.ln,← I.len]
      omega
    · rw [List.toList_toArray,List.append_assoc,← List.append_assoc,List.take_append_of_le_length]
      · rw [List.take_of_length_le]
        · simp [Eng.ints]
        · rw [List.length_append,zl,zl,← O.ln,← I.len]; omega
      · rw [List.length_append,zl,zl,← O.ln,← I.len]; omega
    · show (w.heap.push _)[c]?=_
      rw [zd6,if_neg (by omega)]
    · cases hp
      exact .inr (Nat.le_refl _)
  rcases O.ok with⟨rfl,rfl,rfl⟩ | ⟨g,cur,rfl,q1,q2,q3,q4,q5⟩
  · by_cases hm:m=0
    · subst hm
      have hy0:ys=[]:=List.length_eq_zero_iff.1 I.len.symm
      have hx0:xs=[]:=List.length_eq_zero_iff.1 O.ln.symm
      have g1:=Go.Run.zjt (P:=P) (ty:=ty) (ats:=#[t,t2]) rfl hu hi w (x:=.slice b 0 c) (news:=Eng.ints ys) (by rw [hsz]; exact hs)
      exact key _ _ g1 (Rest.refl w) (H none 0 w.heap ⟨by rw [hx0,hy0]; rfl,.inl ⟨rfl,rfl,rfl⟩⟩ ⟨Nat.le_refl _,fun _ _ _=>rfl,fun p hp=>by cases hp⟩)
    · exact grow (by omega)
  · by_cases hr:len+m≤cap
    · have g1:=Go.Run.zhc (P:=P) (ty:=ty) (ats:=#[t,t2]) (sLen:=len) (sCap:=cap) (off:=0) rfl hu hi w (by rw [hsz]; exact hs) q2 (fun u hu=>by
          simp only [Eng.ints,List.mem_map] at hu
          obtain⟨_,_,rfl⟩:=hu
          rfl) hr (by rw [hsz,zl,← I.len]; omega)
      have hheap:(w.setRow g (splice cur.toList (0+len*i.size) (Eng.ints ys)).toArray).heap[g]?=some (.cells (splice cur.toList (0+len*i.size) (Eng.ints ys)).toArray el (0,0)):=by
        have hlt:=zt q2
        have hv:=(Array.getElem?_eq_some_iff.1 q2).2
        simp [World.setRow,Array.getElem_modify,hlt,hv]
      refine key _ _ g1 ⟨rfl,rfl,rfl⟩ (H _ _ _ ⟨hlen.symm,.inr ⟨g,_,rfl,q1,hheap,?_,hr,?_⟩⟩ ⟨by simp [World.setRow],fun c hc hne=>?_,fun p hp=>.inl ⟨p,hp,rfl⟩⟩)
      · simp [splice,hsz,zl,← I.len]; omega
      · rw [List.toList_toArray,hsz,Nat.zero_add,Nat.mul_one,splice,q5]
        rw [List.take_append_of_le_length (by rw [List.length_append,zl,zl,← O.ln,← I.len]; omega),List.take_of_length_le (by rw [List.length_append,zl,zl,← O.ln,← I.len]; omega)]
        simp [Eng.ints]
      · have:g≠c:=hne _ rfl
        simp [World.setRow,Array.getElem?_modify,this]
    · exact grow (by omega)
theorem zmZ {t t2 el e2:TypeId}{z:Int}(hu:P.underlying t=some (.slice el))(hu2:P.underlying t2=some (.slice e2))(hi:(P.info? el).isSome=true)(hsz:szT P el=1)(hby:zaQ P el≤8)(hz:zR P el=some (.int .i64 z))
    {x y:Operand} {a b:Option Addr} {len cap m c:Nat} {xs ys:List Int} {K:Value→Heap→Prop} (hx:ev er x=.slice a len cap) (hy:ev er y=.slice b m c) (O:OwnI h0 h el a len cap xs) (h0h:h0≤h.size) (I:zJ h b m ys) (hb:len+m≤100000)
    (H:∀ a' cap' h',OwnI h0 h' el a' (len+m) cap' (xs++ys)→App h h' a a'→K (.slice a' (len+m) cap') h'):zg P (.call ⟨.builtin .append,#[x,y],#[t,t2]⟩) ty er h K:=by
  obtain⟨i,hi⟩:=Option.isSome_iff_exists.1 hi
  refine zni hu hu2 hi (by simpa [szT,hi] using hsz) (by simpa [zaQ,hi] using hby) (z:=z) (by simpa [zR,hi] using hz) hx hy O h0h I hb H
def NewI (m:Nat)(h':Heap)(el:TypeId)(v:Value)(xs:List Int):Prop:=∃ a cap,v=.slice a xs.length cap∧OwnI m h' el a xs.length cap xs
theorem App.upd {h h':Heap}{a a':Option Addr}{el:TypeId}{len cap:Nat}{xs:List Int}{m c:Nat}{o:Obj}(A:App h h' a a')(O:OwnI m h el a len cap xs)(hc:h[c]?=some o)(hm:c<m):h'[c]?=some o:=
  (A.old c (zt hc) fun p hp=>by have:=(O.lt hp).2; omega).trans hc
theorem App.extN {h h' h1:Heap}{a a':Option Addr}{el:TypeId}{len cap:Nat}{xs:List Int}{m:Nat}(A:App h h' a a')(O:OwnI m h el a len cap xs)(x:Ext h1 h)(hm:h1.size≤m):Ext h1 h':=
  ⟨Nat.le_trans x.size A.size,fun c hc=>(A.old c (Nat.lt_of_lt_of_le hc x.size) fun p hp=>by have:=(O.lt hp).2; omega).trans (x.old c hc)⟩
theorem OwnI.upd {el:TypeId}{a:Option Addr}{len cap m b:Nat}{xs:List Int}{h h':Heap}(O:OwnI m h el a len cap xs)(u:Upd h h' b)(hb:b<m):OwnI m h' el a len cap xs:=
  O.keep fun p hp=>u.old _ (by have:=(O.lt hp).2; omega)
theorem OwnI.mono {el:TypeId}{a:Option Addr}{len cap m m':Nat}{xs:List Int}{h:Heap}(O:OwnI m h el a len cap xs)(hm:m'≤m):OwnI m' h el a len cap xs:=by
  refine⟨O.ln,?_⟩
  rcases O.ok with h1 | ⟨g,cur,h1,h2,h3⟩
  · exact .inl h1
  · exact .inr ⟨g,cur,h1,by omega,h3⟩
theorem NewI.mono {m m':Nat}{h':Heap}{el:TypeId}{v:Value}{xs:List Int}(N:NewI m h' el v xs)(hm:m'≤m):NewI m' h' el v xs:=by
  obtain⟨a,cap,h1,h2⟩:=N
  exact⟨a,cap,h1,h2.mono hm⟩
theorem NewI.upd {m b:Nat}{h h':Heap}{el:TypeId}{v:Value}{xs:List Int}(N:NewI m h el v xs)(u:Upd h h' b)(hb:b<m):NewI m h' el v xs:=by
  obtain⟨a,cap,h1,h2⟩:=N
  exact⟨a,cap,h1,h2.upd u hb⟩
theorem NewI.ext {m:Nat}{h h':Heap}{el:TypeId}{v:Value}{xs:List Int}(N:NewI m h el v xs)(x:Ext h h'):NewI m h' el v xs:=by
  obtain⟨a,cap,h1,h2⟩:=N
  exact⟨a,cap,h1,h2.ext x⟩
theorem setRow_heap {w:World}{g:Nat}{cur:Array Value}{ct:TypeId}{fr:Nat × Nat}(q:w.heap[g]?=some (.cells cur ct fr))(l:List Value):(w.setRow g l.toArray).heap[g]?=some (.cells l.toArray ct fr)∧Upd w.heap (w.setRow g l.toArray).heap g:=by
  have hlt:=zt q
  have hv:=(Array.getElem?_eq_some_iff.1 q).2
  refine⟨by simp [World.setRow,Array.getElem_modify,hlt,hv],by simp [World.setRow],fun b hb=>?_⟩
  simp [World.setRow,Array.getElem?_modify,Ne.symm hb]
theorem znX {t el ct:TypeId}{z:Int}(hu:P.underlying t=some (.slice el))(hz:zR P el=some (.int .i64 z))
    {x:Operand} {g off n c:Nat} {cur:List Value} {K:Value→Heap→Prop} (hx:ev er x=.slice (some ⟨g,off,none⟩) n c) (hb:h[g]?=some (.cells cur.toArray ct (0,0))) (hl:off+n≤cur.length)
    (H:∀ h',h'[g]?=some (.cells (splice cur off (List.replicate n (.int .i64 z))).toArray ct (0,0))→Upd h h' g→K (.tuple #[]) h'):zg P (.call ⟨.builtin .clear,#[x],#[t]⟩) ty er h K:=by
  unfold zg
  refine And.intro rfl fun w hw=>?_
  subst hw
  have hi:∃ i,P.info? el=some i∧i.zero=some (.int .i64 z):=by
    unfold zR at hz
    cases hq:P.info? el with
    | none=>simp [hq] at hz
    | some i=>exact⟨i,rfl,by simpa [hq] using hz⟩
  obtain⟨i,hi,hz⟩:=hi
  have key:∀ w',(Builtin.clear_ #[t] ty #[.slice (some ⟨g,off,none⟩) n c]).run P w=.ok (.tuple #[]) w'→Rest w w'→K (.tuple #[]) w'.heap →
      zaS P w K ((execOp (ev er) { dst := none, op := .call ⟨.builtin .clear, #[x], #[t]⟩, type := ty, pos := "", after := #[], guard := none }).run P w) := by
    intro w' h1 h2 h3
    have : (execOp (ev er) { dst := none, op := .call ⟨.builtin .clear, #[x], #[t]⟩, type := ty, pos := "", after := #[], guard := none }).run P w = .ok (.value (.tuple #[])) w' := by
      have hargs:#[x].map (ev er)=#[.slice (some ⟨g,off,none⟩) n c]:=by simp [hx]
      simp only [execOp,resolve,invoke,builtin,Sem.run_bind,Sem.run_pure,Result.andThen_ok,hargs,h1]
    rw [this]
    exact⟨h3,h2⟩
  cases n with
  | zero=>
    refine key w (by simp [Builtin.clear_,run_underlying hu]) (Rest.refl w) ?_
    refine H _ ?_ ⟨rfl,fun _ _=>rfl⟩
    rw [hb]
    simp [splice]
  | succ n=>
    have hst:=run_storeCells_at P g off ct (List.replicate (n+1) (Value.int .i64 z)) 0 cur.toArray w hb (by simpa using hl) (fun x hx=>by rw [List.eq_of_mem_replicate hx]; rfl)
    simp only [Nat.add_zero,List.length_replicate] at hst
    have e3:(Builtin.zeroCells (Value.int .i64 z).cells (n+1)).toList=List.replicate (n+1) (Value.int .i64 z):=by
      unfold Builtin.zeroCells
      rw [zea]
      simp [Value.cells]
    refine key (w.setRow g (splice cur off (List.replicate (n+1) (.int .i64 z))).toArray) ?_ ⟨rfl,rfl,rfl⟩ ?_
    rotate_left
    · have e4:cur.toArray.toList.take off++List.replicate (n+1) (Value.int .i64 z)++cur.toArray.toList.drop (off+(n+1))=splice cur off (List.replicate (n+1) (.int .i64 z)):=by simp [splice]
      exact H (w.setRow g (splice cur off (List.replicate (n+1) (.int .i64 z))).toArray).heap (setRow_heap hb _).1 (setRow_heap hb _).2
    · have e4:cur.toArray.toList.take off++List.replicate (n+1) (Value.int .i64 z)++cur.toArray.toList.drop (off+(n+1))=splice cur off (List.replicate (n+1) (.int .i64 z)):=by simp [splice]
      rw [e4] at hst
      simp only [Builtin.clear_,Sem.run_bind,run_underlying hu]
      have hzv:(zeroValue el).run P w=.ok (.int .i64 z) w:=by simp [zeroValue,typeInfo,hi,hz]
      simp [run_underlying hu,hzv,e3,hst]
theorem OwnI.block {el:TypeId}{a:Option Addr}{len cap m:Nat}{xs:List Int}{h:Heap}(O:OwnI m h el a len cap xs)(hn:0<len):∃ g tl,a=some ⟨g,0,none⟩∧m≤g∧h[g]?=some (.cells (Eng.ints xs++tl).toArray el (0,0))∧cap≤len+tl.length∧len≤cap∧len=xs.length:=by
  rcases O.ok with⟨_,h1,_⟩ | ⟨g,cur,rfl,h1,h2,h3,h4,h5⟩
  · omega
  · refine⟨g,cur.toList.drop len,rfl,h1,?_,by simp; omega,h4,O.ln⟩
    rw [h2,← h5,List.take_append_drop]
theorem OwnI.of_block {el:TypeId}{cap m g:Nat}{xs:List Int}{tl:List Value}{h:Heap}(hg:m≤g)(hb:h[g]?=some (.cells (Eng.ints xs++tl).toArray el (0,0)))(hc:cap≤xs.length+tl.length)(hc2:xs.length≤cap):OwnI m h el (some ⟨g,0,none⟩) xs.length cap xs:=
  ⟨rfl,.inr ⟨g,_,rfl,hg,hb,by simp [zl]; omega,hc2,by simp [zl]⟩⟩
theorem bldO_no {z:Option Value}{pl:Nat→Option (Nat × Nat)}{parts:List (Nat × Value)}{F:Prop}{K:Value→Heap→Prop}:bldO false z pl parts h K F=F:=by simp only [bldO]
theorem znT {t el:TypeId}{n:Nat}{z:List Value}{K:Value→Heap→Prop}(hu:P.underlying t=some (.array n el))(hi:(P.info? el).isSome=true)(hz:zR P t=some (.agg z.toArray))(H:K (.agg z.toArray) h):zg P (.build t #[]) ty er h K:=by
  obtain⟨i,hi⟩:=Option.isSome_iff_exists.1 hi
  refine zq rfl _ H fun w _=>?_
  have hz':(zeroValue t).run P w=.ok (.agg z.toArray) w:=by
    unfold zR at hz
    cases hj:P.info? t with
    | none=>simp [hj] at hz
    | some i=>simp only [hj,Option.bind_some] at hz; simp [zeroValue,typeInfo,hj,hz]
  simp only [execOp,Instr.build,Sem.run_bind,hz',Result.andThen_ok,run_underlying hu]
  simp [sizeOf,typeInfo,hi,Value.cells,Instr.fill]
section eqs
open Go.Run
theorem zg1 {ι:Io}:∀ xs:List Int,VL ι (xs.map (T.int .i64)) (Eng.ints xs)
  | []=>by simp [Eng.ints,VL]
  | x::xs=>by
    have:=zg1 (ι:=ι) xs
    simp only [Eng.ints,List.map_cons,VL,VR] at this ⊢
    exact⟨_,_,rfl,rfl,this⟩
theorem zgd:∀ (xs ys:List Int),xs.length=ys.length→beqF (List.replicate xs.length .i) (xs.map (T.int .i64)) (ys.map (T.int .i64))=some (decide (xs=ys))
  | [],[],_=>rfl
  | x::xs,y::ys,h=>by
    have h1:=zgd xs ys (by simpa using h)
    have hk:beqK .i64 .i64=true:=rfl
    simp only [List.length_cons,List.replicate_succ,List.map_cons,beqF,scEq,hk]
    by_cases hxy:x=y
    · have hb:beqI x y=true:=by rw [← zg6]; simpa using hxy
      rw [hb,h1]
      simp [hxy]
    · have hb:beqI x y=false:=by rw [← zg6]; simpa using hxy
      rw [hb]
      simp [hxy]
theorem eqAggW {p:Pr}(ok:Ok P p){u yt:TypeId}{ti:TI}(hti:p.ty u=some ti){a b:T}{v w:Value}{r:Bool}(hv:VR (fun _=>none) a v)(hw:VR (fun _=>none) b w)(he:zce ti a b=some r){op:BinOp}(ho:op=.eql∨op=.neq)
    {x y:Operand} (hx:ev er x=v) (hy:ev er y=w) {K:Value→Heap→Prop} (H:K (.bool (if op=.eql then r else !r)) h):zg P (.binOp op u x y yt) ty er h K:=by
  refine zq rfl _ H fun W hW=>?_
  obtain⟨h1,⟨c,d,rfl,rfl⟩,hg,_⟩:=zb1 (ok.tf hti) hv hw he W
  have:(do eqGuard op u x y (.agg c) (.agg d); Go.binOp op u (.agg c) (.agg d):Sem Value).run P W=.ok (.bool (if op=.eql then r else !r)) W:=by
    rcases ho with rfl | rfl <;> simp [eqGuard,hg,Go.binOp,h1]
  simp only [execOp,Sem.run_bind,hx,hy] at this ⊢
  rw [this]
  rfl
end eqs
theorem zeK {a:Option Addr}{n c lo hi:Nat}{xs:List Int}(I:zJ h a n xs)(h1:lo≤hi)(h2:hi≤n)(h3:n≤c):zJ h (if (c:Int)=(lo:Int) then a else eltP a lo) (hi - lo) ((xs.drop lo).take (hi - lo)):=by
  have hl:=I.len
  refine⟨by simp; omega,?_⟩
  split
  · rename_i he
    have:hi - lo=0:=by omega
    rw [this]
    exact .inl (by simp [Eng.ints])
  · have:=I.row.sub lo (hi - lo) (by rw [zl]; omega)
    rwa [show ((Eng.ints xs).drop lo).take (hi - lo)=Eng.ints ((xs.drop lo).take (hi - lo)) by simp [Eng.ints,List.map_take,List.map_drop]] at this
def Apart (a b:Option Addr):Prop:=∀ p q,a=some p→b=some q→p.block≠q.block
theorem Apart.symm {a b:Option Addr}(H:Apart a b):Apart b a:=fun p q hp hq he=>H q p hq hp he.symm
theorem Apart.app {el2:TypeId}{a a' b:Option Addr}{lb cb mb:Nat}{ys:List Int}{h h':Heap}(hne:Apart a b)(A:App h h' a a')(B:OwnI mb h el2 b lb cb ys):Apart a' b:=by
  intro p q hp hq
  have:=(B.lt hq).1
  rcases A.to p hp with⟨r,hr,he⟩ | h1
  · rw [← he]; exact hne r q hr hq
  · omega
theorem OwnI.apart {el el2:TypeId}{a b:Option Addr}{len cap m lb cb mb:Nat}{xs ys:List Int}{h h':Heap}(O:OwnI m h el a len cap xs)(B:OwnI mb h' el2 b lb cb ys)(hm:h.size≤mb):Apart a b:=by
  intro p q hp hq
  have:=(O.lt hp).1
  have:=(B.lt hq).2
  omega
theorem OwnI.take {el:TypeId}{a:Option Addr}{len cap m:Nat}{xs:List Int}(O:OwnI m h el a len cap xs){k:Nat}(hk:k≤len):OwnI m h el a k cap (xs.take k):=by
  refine⟨by have:=O.ln; simp; omega,?_⟩
  rcases O.ok with⟨h1,h2,h3⟩ | ⟨g,cur,h1,h2,h3,h4,h5,h6⟩
  · exact .inl ⟨h1,by omega,h3⟩
  · refine .inr ⟨g,cur,h1,h2,h3,h4,by omega,?_⟩
    have:(cur.toList.take len).take k=(Eng.ints xs).take k:=by rw [h6]
    rw [List.take_take,show min k len=k by omega] at this
    rw [this]
    simp [Eng.ints,List.map_take]
theorem OwnI.tail {el:TypeId}{len cap m g off:Nat}{xs:List Int}{vs:List Value}{cur:List Value}{h h':Heap}(O:OwnI m h el (some ⟨g,0,none⟩) len cap xs)(hb:h[g]?=some (.cells cur.toArray el (0,0)))(hb':h'[g]?=some (.cells (splice cur off vs).toArray el (0,0)))(ho:len≤off)(hl:off+vs.length≤cur.length):OwnI m h' el (some ⟨g,0,none⟩) len cap xs:=by
  rcases O.ok with⟨h1,_⟩ | ⟨g2,cur2,h1,q1,q2,q3,q4,q5⟩
  · cases h1
  cases h1
  rw [hb] at q2
  cases q2
  refine⟨O.ln,.inr ⟨g,_,rfl,q1,hb',by simp [splice] at q3 ⊢; omega,q4,?_⟩⟩
  rw [← q5]
  simp only [splice,List.append_assoc]
  rw [List.take_append_of_le_length (by rw [List.length_take]; omega),List.take_take]
  congr 1
  omega
section bools
open Go.Run
end bools
end apps
end Go.Eng
end
section
set_option linter.unusedVariables false
set_option linter.unusedSimpArgs false
namespace Go.Eng
open Go
section vrows
variable {P:Program} {h0:Nat} {h:Heap} {er:Env} {ty:TypeId}
structure OwnV (h0:Nat)(h:Heap)(el:TypeId)(s:Nat)(a:Option Addr)(len cap:Nat)(vs:List Value):Prop where
  ln:vs.length=len*s
  ok:(a=none∧len=0∧cap=0)∨∃ g cur,a=some ⟨g,0,none⟩∧h0≤g∧h[g]?=some (.cells cur el (0,0))∧cap*s≤cur.size∧len≤cap∧cur.toList.take (len*s)=vs
theorem OwnV.nil (h0:Nat)(h:Heap)(el:TypeId)(s:Nat):OwnV h0 h el s none 0 0 []:=⟨by simp,.inl ⟨rfl,rfl,rfl⟩⟩
theorem OwnV.row {el:TypeId}{s:Nat}{a:Option Addr}{len cap:Nat}{vs:List Value}(O:OwnV h0 h el s a len cap vs):Row h a vs:=by
  have hl:=O.ln
  rcases O.ok with⟨rfl,h1,_⟩ | ⟨g,cur,rfl,h1,h2,h3,h4,h5⟩
  · left
    rw [h1,Nat.zero_mul] at hl
    exact List.length_eq_zero_iff.1 hl
  · right
    have:len*s≤cap*s:=Nat.mul_le_mul_right _ h4
    exact⟨g,0,cur,el,(0,0),rfl,h2,by omega,by rw [List.drop_zero,hl]; exact h5⟩
theorem OwnV.cap {el:TypeId}{s:Nat}{a:Option Addr}{len cap:Nat}{vs:List Value}(O:OwnV h0 h el s a len cap vs):len≤cap:=by
  rcases O.ok with⟨_,h1,h2⟩ | ⟨g,cur,_,_,_,_,h4,_⟩ <;> omega
theorem OwnV.keep {el:TypeId}{s:Nat}{a:Option Addr}{len cap:Nat}{vs:List Value}(O:OwnV h0 h el s a len cap vs){h':Heap}(hk:∀ p,a=some p→h'[p.block]?=h[p.block]?):OwnV h0 h' el s a len cap vs:=by
  refine⟨O.ln,?_⟩
  rcases O.ok with h1 | ⟨g,cur,rfl,h1,h2,h3⟩
  · exact .inl h1
  · exact .inr ⟨g,cur,rfl,h1,(hk _ rfl).trans h2,h3⟩
theorem OwnV.lt {el:TypeId}{s:Nat}{a:Option Addr}{len cap:Nat}{vs:List Value}(O:OwnV h0 h el s a len cap vs){p:Addr}(hp:a=some p):p.block<h.size∧h0≤p.block:=by
  rcases O.ok with⟨h1,_⟩ | ⟨g,cur,h1,h2,h3,h4⟩
  · rw [h1] at hp; cases hp
  · rw [h1] at hp; cases hp; exact⟨zt h3,h2⟩
theorem OwnV.ext {el:TypeId}{s:Nat}{a:Option Addr}{len cap:Nat}{vs:List Value}(O:OwnV h0 h el s a len cap vs){h':Heap}(x:Ext h h'):OwnV h0 h' el s a len cap vs:=O.keep fun p hp=>x.old _ (O.lt hp).1
theorem OwnV.upd {el:TypeId}{s:Nat}{a:Option Addr}{len cap b:Nat}{vs:List Value}{h':Heap}(O:OwnV h0 h el s a len cap vs)(u:Upd h h' b)(hb:b<h0):OwnV h0 h' el s a len cap vs:=
  O.keep fun p hp=>u.old _ (by have:=(O.lt hp).2; omega)
theorem OwnV.mono {el:TypeId}{s:Nat}{a:Option Addr}{len cap m':Nat}{vs:List Value}(O:OwnV h0 h el s a len cap vs)(hm:m'≤h0):OwnV m' h el s a len cap vs:=by
  refine⟨O.ln,?_⟩
  rcases O.ok with h1 | ⟨g,cur,h1,h2,h3⟩
  · exact .inl h1
  · exact .inr ⟨g,cur,h1,by omega,h3⟩
theorem App.updV {h h':Heap}{a a':Option Addr}{el:TypeId}{s len cap:Nat}{vs:List Value}{m c:Nat}{o:Obj}(A:App h h' a a')(O:OwnV m h el s a len cap vs)(hc:h[c]?=some o)(hm:c<m):h'[c]?=some o:=
  (A.old c (zt hc) fun p hp=>by have:=(O.lt hp).2; omega).trans hc
theorem App.extV {h h' h1:Heap}{a a':Option Addr}{el:TypeId}{s len cap:Nat}{vs:List Value}{m:Nat}(A:App h h' a a')(O:OwnV m h el s a len cap vs)(x:Ext h1 h)(hm:h1.size≤m):Ext h1 h':=
  ⟨Nat.le_trans x.size A.size,fun c hc=>(A.old c (Nat.lt_of_lt_of_le hc x.size) fun p hp=>by have:=(O.lt hp).2; omega).trans (x.old c hc)⟩
theorem ziI {w:World}{b:Option Addr}{m c k s:Nat}{vs:List Value}(H:Row w.heap b vs)(hl:vs.length=m*s)(hk:k≤m):(Builtin.firstCells s k (.slice b m c)).run P w=.ok (vs.take (k*s)).toArray w:=by
  have hks:k*s≤m*s:=Nat.mul_le_mul_right _ hk
  cases b with
  | none=>
    rcases H with h1 | ⟨g,off,cur,ct,fr,h1,_⟩
    · simp [Builtin.firstCells,h1]
    · cases h1
  | some a=>
    rcases H with h1 | ⟨g,off,cur,ct,fr,h1,h2,h3,h4⟩
    · subst h1
      have h0:k*s=0:=by simp at hl; omega
      have:=run_firstCells_some (P:=P) w s k a m c [] (by simp [h0]) (by simp)
      simpa using this
    · cases h1
      refine run_firstCells_some w s k ⟨g,off,none⟩ m c _ (by rw [List.length_take]; omega) fun j u hu=>?_
      rw [← h4,List.getElem?_take] at hu
      split at hu
      · rw [List.getElem?_take] at hu
        split at hu
        · rw [List.getElem?_drop] at hu
          exact Go.Run.zfA h2 (by simpa using hu)
        · cases hu
      · cases hu
theorem row_src {ats:Array TypeId}{t2 e2:TypeId}{s:Nat}(h1:ats[1]?=some t2)(hu:P.underlying t2=some (.slice e2)){b:Option Addr}{m c:Nat}{vs:List Value}(H:Row h b vs)(hl:vs.length=m*s):Go.Run.Src P ats h s m (.slice b m c) vs:=by
  refine⟨⟨t2,_,h1,hu,.inl ⟨e2,rfl⟩⟩,fun w _=>by simp [Builtin.lenOf],fun w hw=>?_,fun _ n hn w hw=>?_⟩
  · subst hw
    have:=ziI (P:=P) (c:=c) H hl (Nat.le_refl m)
    rwa [List.take_of_length_le (by omega)] at this
  · subst hw
    exact ziI (P:=P) (c:=c) H hl hn
theorem zc5 (z:Array Value)(n:Nat):(Builtin.zeroCells z n).size=n*z.size:=by simp [Builtin.zeroCells]
theorem znS {t t2 el e2:TypeId}{i:TypeInfo}{z:Value}{s:Nat}(hu:P.underlying t=some (.slice el))(hu2:P.underlying t2=some (.slice e2))(hi:P.info? el=some i)(hsz:i.size=s)(hz:i.zero=some z)(hzs:z.cells.size=s)
    {x y:Operand} {a b:Option Addr} {len cap m c:Nat} {xs ys:List Value} {K:Value→Heap→Prop} (hx:ev er x=.slice a len cap) (hy:ev er y=.slice b m c) (O:OwnV h0 h el s a len cap xs) (h0h:h0≤h.size) (I:Row h b ys) (hyl:ys.length=m*s) (h1:∀ u∈ys,u.oneCell'=true) (hb:len+m≤1000000) (hby:(len+m)*i.bytes≤1000000)
    (H:∀ a' cap' h',OwnV h0 h' el s a' (len+m) cap' (xs++ys)→App h h' a a'→K (.slice a' (len+m) cap') h'):zg P (.call ⟨.builtin .append,#[x,y],#[t,t2]⟩) ty er h K:=by
  unfold zg
  refine And.intro rfl fun w hw=>?_
  subst hw
  have hxl:=O.ln
  have hlen:(xs++ys).length=(len+m)*s:=by rw [List.length_append,O.ln,hyl,Nat.add_mul]
  have hs:=row_src (P:=P) (ats:=#[t,t2]) (c:=c) rfl hu2 I hyl
  have hargs:#[x,y].map (ev er)=#[.slice a len cap,.slice b m c]:=by simp [hx,hy]
  have key:∀ v w',(Builtin.append_ #[t,t2] ty #[.slice a len cap,.slice b m c]).run P w=.ok v w'→Rest w w'→K v w'.heap →
      zaS P w K ((execOp (ev er) { dst := none, op := .call ⟨.builtin .append, #[x, y], #[t, t2]⟩, type := ty, pos := "", after := #[], guard := none }).run P w) := by
    intro v w' h1 h2 h3
    have : (execOp (ev er) { dst := none, op := .call ⟨.builtin .append, #[x, y], #[t, t2]⟩, type := ty, pos := "", after := #[], guard := none }).run P w = .ok (.value v) w' := by
      simp only [execOp,resolve,invoke,builtin,Sem.run_bind,Sem.run_pure,Result.andThen_ok,hargs,h1]
    rw [this]
    exact⟨h3,h2⟩
  have grow : cap < len + m → zaS P w K ((execOp (ev er) { dst := none, op := .call ⟨.builtin .append, #[x, y], #[t, t2]⟩, type := ty, pos := "", after := #[], guard := none }).run P w) := by
    intro hgr
    have g1:=Go.Run.zjK (P:=P) (ty:=ty) (ats:=#[t,t2]) (z:=z) (sLen:=len) (sCap:=cap) (b:=a) (olds:=xs) rfl hu hi hz w (by rw [hsz]; exact hs)
      (fun w' hw'=>by
        have hI:=O.row
        rw [← hw'] at hI
        have:=ziI (P:=P) (c:=cap) hI O.ln (Nat.le_refl len)
        rw [List.take_of_length_le (by omega)] at this
        rw [hsz]
        exact this) hgr (by omega) (by omega)
    have hge:=grownCap_ge w (len+m) cap el
    refine key _ _ g1 ⟨rfl,rfl,rfl⟩ (H _ _ _ ⟨hlen,.inr ⟨w.heap.size,_,rfl,h0h,zu,?_,hge,?_⟩⟩ ⟨by simp,fun c hc _=>?_,fun p hp=>?_⟩)
    · have e1:(len+m)*s+(grownCap w (len+m) cap el - (len+m))*s=grownCap w (len+m) cap el*s:=by rw [← Nat.add_mul]; congr 1; omega
      simp only [List.size_toArray,List.length_append,Array.length_toList,zc5,hzs,hxl,hyl,Nat.add_mul] at e1 ⊢
      omega
    · rw [List.toList_toArray,List.take_append_of_le_length (by omega),List.take_of_length_le (by omega)]
    · show (w.heap.push _)[c]?=_
      rw [zd6,if_neg (by omega)]
    · cases hp
      exact .inr (Nat.le_refl _)
  rcases O.ok with⟨rfl,rfl,rfl⟩ | ⟨g,cur,rfl,q1,q2,q3,q4,q5⟩
  · by_cases hm:m=0
    · subst hm
      have hy0:ys=[]:=List.length_eq_zero_iff.1 (by simpa using hyl)
      have hx0:xs=[]:=List.length_eq_zero_iff.1 (by simpa using hxl)
      have g1:=Go.Run.zjt (P:=P) (ty:=ty) (ats:=#[t,t2]) rfl hu hi w (x:=.slice b 0 c) (news:=ys) (by rw [hsz]; exact hs)
      exact key _ _ g1 (Rest.refl w) (H none 0 w.heap ⟨by rw [hx0,hy0]; simp,.inl ⟨rfl,rfl,rfl⟩⟩ ⟨Nat.le_refl _,fun _ _ _=>rfl,fun p hp=>by cases hp⟩)
    · exact grow (by omega)
  · by_cases hr:len+m≤cap
    · have hms:(len+m)*s≤cap*s:=Nat.mul_le_mul_right _ hr
      rw [Nat.add_mul] at hms
      have g1:=Go.Run.zhc (P:=P) (ty:=ty) (ats:=#[t,t2]) (sLen:=len) (sCap:=cap) (off:=0) rfl hu hi w (by rw [hsz]; exact hs) q2 h1 hr (by rw [hsz]; omega)
      refine key _ _ g1 ⟨rfl,rfl,rfl⟩ (H _ _ _ ⟨hlen,.inr ⟨g,_,rfl,q1,(setRow_heap q2 _).1,?_,hr,?_⟩⟩ ⟨by simp [World.setRow],fun c hc hne=>?_,fun p hp=>.inl ⟨p,hp,rfl⟩⟩)
      · simp [splice,hsz]; omega
      · rw [List.toList_toArray,hsz,Nat.zero_add,splice,q5]
        rw [List.take_append_of_le_length (by omega),List.take_of_length_le (by omega)]
      · have:g≠c:=hne _ rfl
        simp [World.setRow,Array.getElem?_modify,this]
    · exact grow (by omega)
theorem zcO {t t2 el e2:TypeId}{z:Value}{s:Nat}(hu:P.underlying t=some (.slice el))(hu2:P.underlying t2=some (.slice e2))(hi:(P.info? el).isSome=true)(hsz:szT P el=s)(hz:zR P el=some z)(hzs:z.cells.size=s)
    {x y:Operand} {a b:Option Addr} {len cap m c:Nat} {xs ys:List Value} {K:Value→Heap→Prop} (hx:ev er x=.slice a len cap) (hy:ev er y=.slice b m c) (O:OwnV h0 h el s a len cap xs) (h0h:h0≤h.size) (I:Row h b ys) (hyl:ys.length=m*s) (h1:∀ u∈ys,u.oneCell'=true) (hb:len+m≤1000000) (hby:(len+m)*zaQ P el≤1000000)
    (H:∀ a' cap' h',OwnV h0 h' el s a' (len+m) cap' (xs++ys)→App h h' a a'→K (.slice a' (len+m) cap') h'):zg P (.call ⟨.builtin .append,#[x,y],#[t,t2]⟩) ty er h K:=by
  obtain⟨i,hi⟩:=Option.isSome_iff_exists.1 hi
  refine znS hu hu2 hi (by simpa [szT,hi] using hsz) (z:=z) (by simpa [zR,hi] using hz) hzs hx hy O h0h I hyl h1 hb (by simpa [zaQ,hi] using hby) H
end vrows
theorem zqT {P:Program}{x:Operand}{ty:TypeId}{e:Env}{h:Heap}{K:Value→Heap→Prop}:opW P (.entry x) ty e h K=zg P (.entry x) ty e h K:=by
  unfold opW pvW alcW
  rfl
section steps
variable {l:Option Nat} {P:Program} {e:Env} {d:List Deferred} {h:Heap} {k:Cont}
theorem WP_seq {a b:Code}(H:WP l P a (zcZ (fun e d h=>WP l P b k e d h) k) e d h):WP l P (.seq a b) k e d h:=by
  unfold WP at *
  refine fun w hw=>wpIn_seq (wpIn_mono (H w hw) ?_)
  rintro x a' w' ⟨hq,hr⟩
  unfold zcZ at hq
  cases x with
  | normal=>
    have h2:=hq w' rfl
    rw [za1] at h2
    exact wpIn_mono h2 fun x a w'' q=>⟨q.1,hr.trans q.2⟩
  | _=>exact⟨hq,hr⟩
theorem zoF {c:Operand}{x y:Code}{b:Bool}(hb:ev e c=.bool b)(H:WP l P (if b then x else y) k e d h):WP l P (.cond c x y) k e d h:=by
  unfold WP at *
  refine fun w hw=>wpIn_cond_split (t:=b) (by rw [zaD]; exact hb) (fun ht=>?_) (fun ht=>?_)
  · subst ht; exact H w hw
  · subst ht; exact H w hw
def execJ (P:Program)(all:List Oper):Nat→List Oper→Cont→Env→List Deferred→Heap→Prop
  | _,[],_,_,_,_=>False
  | 0,o::rest,k,e,d,h=>o.guard=none∧zg P o.op o.type e h (fun v h'=>zao P all rest k (putE e o.dst v) d h')
  | j+1,o::rest,k,e,d,h=>o.guard=none∧opW P o.op o.type e h (fun v h'=>execJ P all j rest k (putE e o.dst v) d h')
theorem zhx {all:List Oper}{w0:World}:∀ (j:Nat) (ops:List Oper) (e:Env) (d:List Deferred) (w:World),Eng.Rest w0 w→execJ P all j ops k e d w.heap →
    wpListIn (fen l) 0 P all.toArray (fun x a w'=>k x a.tmps.toList a.defers w'.heap∧Eng.Rest w0 w') ops ⟨e.toArray,d⟩ w
  | j,[],e,d,w,hr,H=>by cases j <;> exact H.elim
  | 0,o::rest,e,d,w,hr,H=>by
    obtain⟨hg,H⟩:=H
    unfold wpListIn
    have hw:Region.wanted o (yielded all.toArray e.toArray)=true:=by simp [Region.wanted,hg]
    simp only [hw,if_true]
    refine zbL (zY ?_ H)
    intro v h' hk w' hw' hr'
    subst hw'
    exact zdj rest _ d w' (hr.trans hr') hk
  | j+1,o::rest,e,d,w,hr,H=>by
    obtain⟨hg,H⟩:=H
    unfold wpListIn
    have hw:Region.wanted o (yielded all.toArray e.toArray)=true:=by simp [Region.wanted,hg]
    simp only [hw,if_true]
    refine zbL (zY ?_ (zw H))
    intro v h' hk w' hw' hr'
    subst hw'
    exact zhx j rest _ d w' (hr.trans hr') hk
theorem zoW {id:Nat}{ops:List Oper}(j:Nat)(H:execJ P ops j ops k e d h):WP l P (.region id ops.toArray false) k e d h:=by
  unfold WP
  intro w hw
  subst hw
  exact wpIn_region_list (by have:=zhx (l:=l) (w0:=w) j ops e d w (Eng.Rest.refl w) H; simpa using this)
end steps
section maps
open Go.Run
variable {P:Program} {h:Heap} {er:Env} {ty:TypeId} {α:Type}
def entM (kv:α→Value)(x:α × Value × Nat):MapEntry:={ key:=kv x.1,val:=x.2.1,born:=x.2.2 }
theorem zkc {kv:α→Value}:∀ (es:List (α × Value × Nat)) (j:Nat),(es.map (entM kv)).eraseIdx j=(es.eraseIdx j).map (entM kv)
  | [],j=>by simp
  | x::r,0=>by simp
  | x::r,j+1=>by simp [zkc r j]
structure MapV (kv:α→Value)(h:Heap)(b:Nat)(es:List (α × Value × Nat))(c:Nat):Prop where
  obj:h[b]?=some (.map (es.map (entM kv)).toArray c)
  born:(es.map (·.2.2)).Pairwise (·<·)
  lt:∀ x∈es,x.2.2<c
theorem MapV.empty {kv:α→Value}(h:Heap):MapV kv (h.push (.map #[] 0)) h.size [] 0:=⟨by simp,by simp,by simp⟩
theorem MapV.keep {kv:α→Value}{b c:Nat}{es:List (α × Value × Nat)}{h':Heap}(M:MapV kv h b es c)(hk:h'[b]?=h[b]?):MapV kv h' b es c:=⟨hk.trans M.obj,M.born,M.lt⟩
theorem MapV.ext {kv:α→Value}{b c:Nat}{es:List (α × Value × Nat)}{h':Heap}(M:MapV kv h b es c)(x:Ext h h'):MapV kv h' b es c:=M.keep (x.old _ (zt M.obj))
theorem ze3 {b:Nat}{o o':Obj}(hb:h[b]?=some o):(h.setIfInBounds b o')[b]?=some o'∧Upd h (h.setIfInBounds b o') b:=by
  have hlt:=zt hb
  exact⟨by simp [Array.getElem?_setIfInBounds,hlt],by simp,fun b' hb'=>Array.getElem?_setIfInBounds_ne (Ne.symm hb')⟩
theorem zp2 {u kt vt:TypeId}{kv:α→Value}(hu:P.underlying u=some (.map kt vt)){b c:Nat}{es:List (α × Value × Nat)}(M:MapV kv h b es c){x:Operand}{Q:Value→Heap→Prop}(hx:ev er x=.map (some b))
    (H:Q (.pointer (some ⟨h.size,0,none⟩)) (h.push (.mapIter (some b) c #[] c))):zg P (.range u x) ty er h Q:=by
  refine zZ rfl (.pointer (some ⟨h.size,0,none⟩)) (h.push (.mapIter (some b) c #[] c)) H fun w hw=>?_
  subst hw
  have g1:=MapKept.run_getObj_map (P:=P) M.obj
  exact⟨{ w with heap:=w.heap.push (.mapIter (some b) c #[] c) },by simp [execOp,Instr.range,hx,run_underlying hu,g1],rfl,rfl,rfl,rfl⟩
theorem zlU {kv:α→Value}(es:List (α × Value × Nat))(seen:Array Nat):(leftOf (es.map (entM kv)).toArray seen).toList=(es.filter fun x=>!seen.contains x.2.2).map (entM kv):=by
  unfold leftOf
  rw [Array.toList_filter,List.toList_toArray,List.filter_map]
  rfl
theorem zre {kv:α→Value}{b c r since c0:Nat}{seen:Array Nat}{es:List (α × Value × Nat)}(M:MapV kv h b es c)(hr:h[r]?=some (.mapIter (some b) since seen c0))(hold:∀ x∈es,x.2.2<since)(hsc:since≤c0)
    {x:Operand} {Q:Value→Heap→Prop} (hx:ev er x=.pointer (some ⟨r,0,none⟩)) (H0:(∀ x∈es,seen.contains x.2.2=true)→Q (.tuple #[.bool false]) h)
    (H1:∀ e∈es,seen.contains e.2.2=false→∀ h',h'[r]?=some (.mapIter (some b) since (seen.push e.2.2) c)→Upd h h' r→Q (.tuple #[.bool true,kv e.1,e.2.1]) h'):zg P (.next x false) ty er h Q:=by
  unfold zg
  refine And.intro rfl fun w hw=>?_
  have M1:=M.obj
  rw [← hw] at M1 hr
  rcases run_next_at (P:=P) w ty r b since c0 seen _ c hr M1 (fun y hy=>by
    rw [List.toList_toArray] at hy
    obtain⟨q,hq,rfl⟩:=List.mem_map.1 hy
    exact hold q hq) hsc with⟨h1,h2⟩ | ⟨e,he,w1,hw1,hrun⟩
  · have : (execOp (ev er) { dst := none, op := .next x false, type := ty, pos := "", after := #[], guard := none }).run P w = .ok (.value (.tuple #[.bool false])) w := by
      simp [execOp,hx,h2]
    rw [this]
    refine⟨?_,Rest.refl w⟩
    rw [hw]
    refine H0 fun y hy=>?_
    rw [← Array.length_toList,zlU] at h1
    have h1:=List.length_eq_zero_iff.1 h1
    rw [List.map_eq_nil_iff,List.filter_eq_nil_iff] at h1
    have:=h1 y hy
    simpa using this
  · rw [zlU] at he
    obtain⟨q,hq,rfl⟩:=List.mem_map.1 he
    have hq:=List.mem_filter.1 hq
    have : (execOp (ev er) { dst := none, op := .next x false, type := ty, pos := "", after := #[], guard := none }).run P w = .ok (.value (.tuple #[.bool true, kv q.1, q.2.1])) (ChangeMaps.setBlock w1 r (.mapIter (some b) since (seen.push q.2.2) c)) := by
      simp only [execOp,hx,Sem.run_bind,hrun,Result.andThen_ok,Sem.run_pure,entM]
    rw [this]
    have hs:=ze3 (o':=.mapIter (some b) since (seen.push q.2.2) c) hr
    refine⟨H1 q hq.1 (by simpa using hq.2) _ ?_ ?_,?_⟩
    · rcases hw1 with rfl | rfl <;> exact hs.1
    · rw [← hw]
      rcases hw1 with rfl | rfl <;> exact hs.2
    · rcases hw1 with rfl | rfl <;> exact⟨rfl,rfl,rfl⟩
theorem zo7 {kv:α→Value}{b c r since:Nat}{seen:Array Nat}{es:List (α × Value × Nat)}(M:MapV kv h b es c){e:α × Value × Nat}(he:e∈es)(hr:h[r]?=some (.mapIter (some b) since (seen.push e.2.2) c))
    {x:Operand} {Q:Value→Heap→Prop} (hx:ev er x=.pointer (some ⟨r,0,none⟩)) (H:Q (.tuple #[kv e.1,e.2.1]) h):zg P (.entry x) ty er h Q:=by
  refine zq rfl _ H fun w hw=>?_
  have M1:=M.obj
  rw [← hw] at M1 hr
  have:=run_entry_at (P:=P) w r b since seen _ c (entM kv e) hr M1 (by rw [List.toList_toArray]; exact List.mem_map.2 ⟨e,he,rfl⟩) (by
    rw [List.toList_toArray,List.map_map]
    exact M.born.imp (fun h=>Nat.ne_of_lt h))
  simp only [execOp,hx,Sem.run_bind,this,Result.andThen_ok,Sem.run_pure,entM]
variable [DecidableEq α]
def zbI (a:α):List (α × Value × Nat)→Nat→Option (Nat × Value)
  | [],_=>none
  | x::r,i=>if a=x.1 then some (i,x.2.1) else zbI a r (i+1)
def getA (a:α):List (α × Value × Nat)→Option Value
  | []=>none
  | x::r=>if a=x.1 then some x.2.1 else getA a r
def putA (a:α)(v:Value)(c:Nat):List (α × Value × Nat)→List (α × Value × Nat)
  | []=>[(a,v,c)]
  | x::r=>if a=x.1 then (a,v,x.2.2)::r else x::putA a v c r
def delA (a:α):List (α × Value × Nat)→List (α × Value × Nat)
  | []=>[]
  | x::r=>if a=x.1 then r else x::delA a r
theorem zcd {a:α}:∀ {es:List (α × Value × Nat)} {i:Nat},zbI a es i=none→getA a es=none∧(∀ v c,putA a v c es=es++[(a,v,c)])∧delA a es=es
  | [],i,_=>⟨rfl,fun _ _=>rfl,rfl⟩
  | x::r,i,h=>by
    unfold zbI at h
    split at h
    · cases h
    · rename_i hx
      obtain⟨h1,h2,h3⟩:=zcd h
      exact⟨by simp [getA,hx,h1],fun v c=>by simp [putA,hx,h2],by simp [delA,hx,h3]⟩
theorem zcj {a:α}:∀ {es:List (α × Value × Nat)} {i j:Nat} {u:Value},zbI a es i=some (j,u) →
    ∃ k x,j=i+k∧es[k]?=some x∧x.1=a∧x.2.1=u∧getA a es=some u∧(∀ v c,putA a v c es=es.modify k (fun x=>(a,v,x.2.2)))∧delA a es=es.eraseIdx k
  | [],i,j,u,h=>by cases h
  | x::r,i,j,u,h=>by
    unfold zbI at h
    split at h
    · rename_i hx
      cases h
      exact⟨0,x,rfl,rfl,hx.symm,rfl,by simp [getA,hx],fun v c=>by simp [putA,hx],by simp [delA,hx]⟩
    · rename_i hx
      obtain⟨k,y,h1,h2,h3,h4,h5,h6,h7⟩:=zcj h
      exact⟨k+1,y,by omega,by simpa using h2,h3,h4,by simp [getA,hx,h5],fun v c=>by simp [putA,hx,h6],by simp [delA,hx,h7]⟩
structure Keys (P:Program)(kt:TypeId)(kv:α→Value):Prop where
  find:∀ (a:α) (es:List (α × Value × Nat)) (W:World),(Instr.findKey kt (kv a) (es.map (entM kv))).run P W=.ok (zbI a es 0) W
  check:∀ (a:α) (em:Bool) (W:World),(Instr.checkKey em 10000 kt (kv a)).run P W=.ok () W
  stays:∀ (a:α) (W:World),(Instr.keyThatStays (kv a) (kv a)).run P W=.ok (kv a) W
theorem zll {kt:TypeId}{ki:TI}{kf:α→T}{kv:α→Value}(tf:TF P kt ki)(vr:∀ a,VR (fun _=>none) (kf a) (kv a))(eq:∀ a b,zat ki (kf a) (kf b)=some (decide (a=b)))(a:α)(W:World) :
    ∀ (es:List (α × Value × Nat)) (i:Nat),(Instr.findAsking kt (kv a) (es.map (entM kv)) i).run P W=.ok (zbI a es i) W
  | [],i=>by simp [Instr.findAsking,zbI]
  | x::es,i=>by
    obtain⟨q1,_⟩:=zgB tf (vr a) (vr x.1) (eq a x.1) W
    have ih:=zll tf vr eq a W es (i+1)
    by_cases hx:a=x.1
    · subst hx
      simp only [decide_true] at q1
      simp [Instr.findAsking,zbI,entM,q1,Result.andThen]
    · simp [Instr.findAsking,zbI,entM,q1,hx,Result.andThen] at q1 ih ⊢
      exact ih
theorem Keys.flat {kt:TypeId}{ki:TI}{kf:α→T}{kv:α→Value}(hw:(match P.underlying kt with | some (.array _ _) | some (.struct _)=>true | _=>false)=true)(tf:TF P kt ki)(vr:∀ a,VR (fun _=>none) (kf a) (kv a))(eq:∀ a b,zat ki (kf a) (kf b)=some (decide (a=b))):Keys P kt kv where
  find a es W:=by
    rw [run_findKey_eq W hw]
    exact zll tf vr eq a W es 0
  check a em W:=zbd tf (vr a) (by rw [eq a a]; simp) em W
  stays a W:=zgz (vr a) (by rw [eq a a]; simp) W
def clkA (a:α)(es:List (α × Value × Nat))(c:Nat):Nat:=if (getA a es).isSome then c else c+1
theorem zhV {a:α}{v:Value}{c:Nat}:∀ {es:List (α × Value × Nat)},(putA a v c es).map (·.2.2)=es.map (·.2.2)++(if (getA a es).isSome then [] else [c])
  | []=>rfl
  | x::r=>by
    by_cases hx:a=x.1
    · simp [putA,getA,hx]
    · simp [putA,getA,hx,zhV (es:=r)]
theorem ze6 {a:α}:∀ {es:List (α × Value × Nat)},(delA a es).Sublist es
  | []=>List.Sublist.refl _
  | x::r=>by
    by_cases hx:a=x.1
    · simp [delA,hx]
    · simp only [delA,hx,if_false]; exact ze6.cons_cons x
theorem MapV.put {kv:α→Value}{b c:Nat}{es:List (α × Value × Nat)}{h':Heap}{a:α}{v:Value}(M:MapV kv h b es c)(ho:h'[b]?=some (.map ((putA a v c es).map (entM kv)).toArray (clkA a es c))):MapV kv h' b (putA a v c es) (clkA a es c):=by
  refine⟨ho,?_,fun x hx=>?_⟩
  · rw [zhV]
    split
    · simpa using M.born
    · rw [List.pairwise_append]
      refine⟨M.born,by simp,fun y hy z hz=>?_⟩
      obtain⟨q,hq,rfl⟩:=List.mem_map.1 hy
      have:=M.lt q hq
      simp at hz
      omega
  · have h1:x.2.2∈(putA a v c es).map (·.2.2):=List.mem_map.2 ⟨x,hx,rfl⟩
    rw [zhV] at h1
    unfold clkA
    rcases List.mem_append.1 h1 with h1 | h1
    · obtain⟨q,hq,hqe⟩:=List.mem_map.1 h1
      have:=M.lt q hq
      split <;> omega
    · split at h1
      · cases h1
      · rename_i hn
        simp at h1
        rw [if_neg hn]
        omega
theorem MapV.del {kv:α→Value}{b c:Nat}{es:List (α × Value × Nat)}{h':Heap}{a:α}(M:MapV kv h b es c)(ho:h'[b]?=some (.map ((delA a es).map (entM kv)).toArray c)):MapV kv h' b (delA a es) c:=
  ⟨ho,M.born.sublist (ze6.map _),fun x hx=>M.lt x (ze6.subset hx)⟩
theorem map_putT {u kt vt:TypeId}{kv:α→Value}(hu:P.underlying u=some (.map kt vt))(K:Keys P kt kv){b c:Nat}{es:List (α × Value × Nat)}(M:MapV kv h b es c){a:α}{v:Value}
    {x k y:Operand} {Q:Value→Heap→Prop} (hx:ev er x=.map (some b)) (hk:ev er k=kv a) (hy:ev er y=v)
    (H:∀ h',MapV kv h' b (putA a v c es) (clkA a es c)→Upd h h' b→Q undef h'):zg P (.mapUpdate u x k y) ty er h Q:=by
  have hs:=ze3 (o':=.map ((putA a v c es).map (entM kv)).toArray (clkA a es c)) M.obj
  refine zdQ rfl (h.setIfInBounds b (.map ((putA a v c es).map (entM kv)).toArray (clkA a es c))) (H _ (M.put hs.1) hs.2) fun W hW=>⟨{ W with heap:=W.heap.setIfInBounds b (.map ((putA a v c es).map (entM kv)).toArray (clkA a es c)) },?_,by rw [hW],rfl,rfl,rfl⟩
  have M1:=M.obj
  rw [← hW] at M1
  have c1:=K.check a false W
  have f1:=K.find a es W
  have g1:=MapKept.run_getObj_map (P:=P) M1
  have g2:=MapKept.run_setObj_map (P:=P) (.map ((putA a v c es).map (entM kv)).toArray (clkA a es c)) M1
  cases hf:zbI a es 0 with
  | none=>
    obtain⟨q1,q2,_⟩:=zcd hf
    have e1:((es.map (entM kv)).toArray.push { key:=kv a,val:=v,born:=c })=((putA a v c es).map (entM kv)).toArray:=by simp [q2,entM]
    have e2:clkA a es c=c+1:=by simp [clkA,q1]
    rw [hf] at f1
    rw [e2] at g2 ⊢
    simp only [execOp,Instr.mapUpdate,hx,hk,hy,Sem.run_bind,run_underlying hu,Result.andThen_ok,g1,c1,List.toList_toArray,f1,e1,g2,Sem.run_pure]
  | some r=>
    obtain⟨j,u0⟩:=r
    obtain⟨k0,x0,h1,h2,h3,h4,h5,h6,_⟩:=zcj hf
    have h1:j=k0:=by omega
    subst h1
    have e1:((es.map (entM kv)).toArray.modify j fun e=>{ e with key:=kv a,val:=v })=((putA a v c es).map (entM kv)).toArray:=by
      apply Array.toList_inj.1
      rw [zbj,h6]
      apply List.ext_getElem?
      intro i
      simp only [List.toList_toArray,List.getElem?_modify,List.getElem?_map,Option.map_map]
      split
      · cases es[i]? <;> simp [entM]
      · cases es[i]? <;> simp [entM]
    have e2:clkA a es c=c:=by simp [clkA,h5]
    have e3:((es.map (entM kv)).toArray[j]?.map (·.key)).getD (kv a)=kv a:=by simp [h2,entM,h3]
    have st:=K.stays a W
    rw [hf] at f1
    rw [e2] at g2 ⊢
    simp only [execOp,Instr.mapUpdate,hx,hk,hy,Sem.run_bind,run_underlying hu,Result.andThen_ok,g1,c1,List.toList_toArray,f1,e3,st,e1,g2,Sem.run_pure]
theorem map_delT {u kt vt:TypeId}{kv:α→Value}(hu:P.underlying u=some (.map kt vt))(K:Keys P kt kv){b c:Nat}{es:List (α × Value × Nat)}(M:MapV kv h b es c){a:α}{t2:TypeId}
    {x k:Operand} {Q:Value→Heap→Prop} (hx:ev er x=.map (some b)) (hk:ev er k=kv a)
    (H:∀ h',MapV kv h' b (delA a es) c→Upd h h' b→Q (.tuple #[]) h'):zg P (.call ⟨.builtin .delete,#[x,k],#[u,t2]⟩) ty er h Q:=by
  have hs:=ze3 (o':=.map ((delA a es).map (entM kv)).toArray c) M.obj
  refine zZ rfl (.tuple #[]) (h.setIfInBounds b (.map ((delA a es).map (entM kv)).toArray c)) (H _ (M.del hs.1) hs.2) fun W hW=>⟨{ W with heap:=W.heap.setIfInBounds b (.map ((delA a es).map (entM kv)).toArray c) },?_,by rw [hW],rfl,rfl,rfl⟩
  have M1:=M.obj
  rw [← hW] at M1
  have c1:=fun em=>K.check a em W
  have f1:=K.find a es W
  have g1:=MapKept.run_getObj_map (P:=P) M1
  have g2:=MapKept.run_setObj_map (P:=P) (.map ((delA a es).map (entM kv)).toArray c) M1
  have hargs:#[x,k].map (ev er)=#[.map (some b),kv a]:=by simp [hx,hk]
  have key:(Builtin.delete_ #[u,t2] ty #[.map (some b),kv a]).run P W=.ok (.tuple #[]) { W with heap:=W.heap.setIfInBounds b (.map ((delA a es).map (entM kv)).toArray c) }:=by
    cases hf:zbI a es 0 with
    | none=>
      obtain⟨_,_,q3⟩:=zcd hf
      rw [hf] at f1
      rw [q3] at g2 ⊢
      simp [Builtin.delete_,run_underlying hu,g1,c1,f1,g2]
    | some r=>
      obtain⟨j,u0⟩:=r
      obtain⟨k0,x0,h1,h2,h3,h4,h5,_,h7⟩:=zcj hf
      have h1:j=k0:=by omega
      subst h1
      have e1:((es.map (entM kv)).toArray.eraseIdxIfInBounds j)=((delA a es).map (entM kv)).toArray:=by
        apply Array.toList_inj.1
        rw [zd4,h7]
        exact zkc es j
      rw [hf] at f1
      rw [← e1] at g2 ⊢
      simp only [List.eraseIdxIfInBounds_toArray] at g2 ⊢
      simp [Builtin.delete_,run_underlying hu,g1,c1,f1,g2]
  simp only [execOp,resolve,invoke,builtin,Sem.run_bind,Sem.run_pure,Result.andThen_ok,hargs,key]
theorem zeo {u kt vt:TypeId}{kv:α→Value}{z:Value}(hu:P.underlying u=some (.map kt vt))(hz:zR P vt=some z)(K:Keys P kt kv){b c:Nat}{es:List (α × Value × Nat)}(M:MapV kv h b es c){a:α}{ok:Bool}
    {x k:Operand} {Q:Value→Heap→Prop} (hx:ev er x=.map (some b)) (hk:ev er k=kv a)
    (H:Q (if ok then .tuple #[(getA a es).getD z,.bool (getA a es).isSome] else (getA a es).getD z) h):zg P (.lookup u x k ok) ty er h Q:=by
  refine zq rfl _ H fun W hW=>?_
  have M1:=M.obj
  rw [← hW] at M1
  have c1:=fun em=>K.check a em W
  have f1:=K.find a es W
  have g1:=MapKept.run_getObj_map (P:=P) M1
  have hz':(zeroValue vt).run P W=.ok z W:=by
    unfold zR at hz
    cases hj:P.info? vt with
    | none=>simp [hj] at hz
    | some i=>simp only [hj,Option.bind_some] at hz; simp [zeroValue,typeInfo,hj,hz]
  cases hf:zbI a es 0 with
  | none=>
    obtain⟨q1,_,_⟩:=zcd hf
    rw [hf] at f1
    rw [q1]
    cases ok <;> simp [execOp,Instr.lookup,hx,hk,run_underlying hu,g1,c1,f1,hz',Result.andThen]
  | some r=>
    obtain⟨j,u0⟩:=r
    obtain⟨k0,x0,h1,h2,h3,h4,h5,_,h7⟩:=zcj hf
    rw [hf] at f1
    rw [h5]
    cases ok <;> simp [execOp,Instr.lookup,hx,hk,run_underlying hu,g1,c1,f1,Result.andThen]
end maps
end Go.Eng
end
section
namespace Go.Proofs.YtepaekbjoombpaaGreatDoor
open Go Go.Proofs Go.Eng Tab
set_option maxRecDepth 100000
set_option linter.unusedSimpArgs false
set_option linter.unusedVariables false
set_option maxHeartbeats 1000000
set_option linter.defProp false
def zfl:=(And.intro (And.intro (And.intro @agg2 (And.intro @agg3 @by3)) (And.intro @zff (And.intro @ze9 @zeT))) (And.intro (And.intro @ziT (And.intro @inf2 @inf3)) (And.intro (And.intro @sz2 @sz3) (And.intro @zbH @Tryz.underlying40))))
def zgD:=(And.intro (And.intro @zhm @by26) (And.intro @zg9 (And.intro @sz26 @Tryz.underlying22)))
def A2Fs70:=(And.intro (And.intro (And.intro @agg2 @agg3) (And.intro @zff (And.intro @ze9 @zeT))) (And.intro (And.intro @ziT @inf2) (And.intro @inf3 (And.intro @sz2 @sz3))))
def zlg:=(And.intro (And.intro @zhm (And.intro @agg3 @zel)) (And.intro (And.intro @zg9 @inf3) (And.intro @sz26 @sz3)))
def A2Fs75:=(And.intro (And.intro @agg3 @zff) (And.intro @inf3 @sz3))
def zdo:=(And.intro (And.intro @zhm @by26) (And.intro @zg9 (And.intro @sz26 @Tryz.underlying22)))
def A2Fs78:=(And.intro (And.intro @agg3 @ze9) (And.intro @zeT (And.intro @inf3 @sz3)))
theorem zaB {h:Eng.Heap}{b:Nat}{x:Int}{ct:TypeId}{fr:Nat × Nat}(hb:h[b]?=some (.cells #[.int .i64 x] ct fr)):zJ h (some ⟨b,0,none⟩) 1 [x]:=zJ.block (xs:=[x]) hb
theorem pn1 {h:Eng.Heap}{o o':Obj}:((h.push o).push o')[h.size+1]?=some o':=by rw [Array.getElem?_push,if_pos (by simp)]
theorem pn0 {h:Eng.Heap}{o o':Obj}:((h.push o).push o')[h.size]?=some o:=by rw [Array.getElem?_push,if_neg (by simp)]; exact zu
theorem zky {h:Eng.Heap}{b:Nat}{x y:Int}{ct:TypeId}{fr:Nat × Nat}(hb:h[b]?=some (.cells #[.int .i64 x,.int .i64 y] ct fr)):zJ h (some ⟨b,0,none⟩) 2 [x,y]:=zJ.block (xs:=[x,y]) hb
theorem zcA {lo hi x:Int}:inB lo hi [x]=decide (lo≤x∧x≤hi):=by simp [inB]
theorem zdU {lo hi x y:Int}:inB lo hi [x,y]=decide ((lo≤x∧x≤hi)∧lo≤y∧y≤hi):=by simp [inB]
structure En where
  d:Int
  f:Int
  t:Int
  a:Int
  deriving DecidableEq
def enV (e:En):List Value:=[.int .i64 e.d,.int .i64 e.f,.int .i64 e.t,.int .i64 e.a]
def ensV (es:List En):List Value:=es.flatMap enV
theorem zgr (e:En)(es:List En):ensV (e::es)=enV e++ensV es:=rfl
theorem zaq (es:List En):(ensV es).length=es.length*4:=by
  induction es with
  | nil=>rfl
  | cons e es ih=>rw [zgr,List.length_append,ih]; simp [enV]; omega
theorem zku:∀ (es:List En) (j:Nat),(ensV es).drop (j*4)=ensV (es.drop j)
  | es,0=>by simp
  | [],j+1=>by simp [ensV]
  | e::es,j+1=>by
    have e1:(j+1)*4=4+j*4:=by omega
    rw [zgr,e1,← List.drop_drop]
    have:(enV e++ensV es).drop 4=ensV es:=by simp [enV]
    rw [this,zku es j]; rfl
theorem zk0:∀ (es:List En) (j:Nat),(ensV es).take (j*4)=ensV (es.take j)
  | es,0=>by simp [ensV]
  | [],j+1=>by simp [ensV]
  | e::es,j+1=>by
    have e1:(j+1)*4=4+j*4:=by omega
    rw [zgr,e1,List.take_add]
    have h1:(enV e++ensV es).take 4=enV e:=by simp [enV]
    have h2:(enV e++ensV es).drop 4=ensV es:=by simp [enV]
    rw [h1,h2,zk0 es j]; rfl
theorem zhM (es:List En)(j:Nat)(hj:j<es.length):((ensV es).drop (j*4)).take 4=enV es[j]:=by
  have h1:((ensV es).drop (j*4)).take (1*4)=ensV ((es.drop j).take 1):=by rw [zku,zk0]
  rw [Nat.one_mul] at h1
  rw [h1,List.drop_eq_getElem_cons hj]
  simp only [List.take_succ_cons,List.take_zero,ensV,List.flatMap_cons,List.flatMap_nil,List.append_nil]
theorem zoR (es:List En)(j k:Nat)(hj:j<es.length)(hk:k<4):(ensV es)[j*4+k]?=(enV es[j])[k]?:=by
  have h:=zhM es j hj
  have:(((ensV es).drop (j*4)).take 4)[k]?=(enV es[j])[k]?:=by rw [h]
  rwa [List.getElem?_take,if_pos hk,List.getElem?_drop] at this
def okE (acc:Int)(e:En):Prop:=(1≤e.d∧e.d≤30)∧(0≤e.f∧e.f<acc)∧(0≤e.t∧e.t<acc)∧(1≤e.a∧e.a≤1000)
instance (acc:Int) (e:En):Decidable (okE acc e):=by unfold okE; infer_instance
theorem stray65 (acc:Int)(e:En)(h:Eng.Heap)(ha:-9223372036854775808<acc∧acc≤9223372036854775807) :
    zb Tryz.prog 65 #[.int .i64 acc,.agg #[.int .i64 e.d,.int .i64 e.f,.int .i64 e.t,.int .i64 e.a]] h (fun v h'=>v=.bool (!decide (okE acc e))∧Ext h h'):=by
  (refine ze Tryz.func65 rfl bod65 ?_; simp only [Tryz.ntmps65,Tryz.results65,za,zh,splice,Value.cells,Value.oneCell',Nat.reduceAdd,Nat.reduceSub,Nat.reduceMul,Nat.reduceLeDiff,Int.reduceEq,Nat.reduceEqDiff,zfl])
  refine zb.mono (zdc 1 30 _ 1 1 [e.d] _ (zaB pn1) (by omega)) ?_
  rintro v h1 ⟨rfl,x1⟩
  have hb1:=x1.get pn0
  have y1:=x1.of_push.of_push
  by_cases hd:1≤e.d∧e.d≤30
  · simp only [zcA,hd,hb1,and_self,decide_true,Bool.not_true,splice,za,Value.cells,Value.oneCell',Nat.reduceAdd,Nat.reduceSub,Nat.reduceMul,Nat.reduceLeDiff,Int.reduceEq,Nat.reduceEqDiff,zfl]
    refine⟨by rw [zf]; omega,?_⟩
    refine zb.mono (zdc 0 (acc - 1) _ 2 2 [e.f,e.t] _ (zky zu) (by omega)) ?_
    rintro v h2 ⟨rfl,x2⟩
    have hb2:=(x2.of_push).get hb1
    have y2:=y1.trans x2.of_push
    by_cases hf:(0≤e.f∧e.f≤acc - 1)∧0≤e.t∧e.t≤acc - 1
    · have hok:decide (okE acc e)=(decide (1≤e.a)&&decide (e.a≤1000)):=by
        rw [← Bool.decide_and]
        refine decide_eq_decide.2 ?_
        unfold okE
        omega
      by_cases ha1:e.a<1
      · have ha2:¬ 1≤e.a:=by omega
        simp only [zdU,hf,hb2,ha1,ha2,hok,and_self,decide_true,decide_false,Bool.not_true,Bool.not_false,Bool.false_and,za,Value.cells,Value.oneCell',Nat.reduceAdd,Nat.reduceSub,Nat.reduceMul,Nat.reduceLeDiff,Int.reduceEq,Nat.reduceEqDiff,zfl]
        exact y2
      · have ha2:1≤e.a:=by omega
        have ha3:decide (1000<e.a)=!decide (e.a≤1000):=by by_cases h1:e.a≤1000 <;> simp [h1] <;> omega
        simp only [zdU,hf,hb2,ha1,ha2,hok,ha3,and_self,decide_true,decide_false,Bool.not_true,Bool.not_false,Bool.true_and,za,Value.cells,Value.oneCell',Nat.reduceAdd,Nat.reduceSub,Nat.reduceMul,Nat.reduceLeDiff,Int.reduceEq,Nat.reduceEqDiff,zfl]
        exact y2
    · have hok:¬ okE acc e:=by unfold okE; omega
      simp only [zdU,hf,hok,decide_false,Bool.not_false,za,Value.cells,Value.oneCell',Nat.reduceAdd,Nat.reduceSub,Nat.reduceMul,Nat.reduceLeDiff,Int.reduceEq,Nat.reduceEqDiff,zfl]
      exact y2
  · have hok:¬ okE acc e:=by unfold okE; omega
    simp only [zcA,hd,hok,decide_false,Bool.not_false,za,Value.cells,Value.oneCell',Nat.reduceAdd,Nat.reduceSub,Nat.reduceMul,Nat.reduceLeDiff,Int.reduceEq,Nat.reduceEqDiff,zfl]
    exact y1
theorem zqk (acc:Int)(e:En)(h:Eng.Heap) :
    zb Tryz.prog 70 #[.int .i64 acc,.agg #[.int .i64 e.d,.int .i64 e.f,.int .i64 e.t,.int .i64 e.a]] h (fun v h'=>v=.int .i64 (if okE acc e then 0 else 3)∧Ext h h'):=by
  (refine ze Tryz.func70 rfl bod70 ?_; simp only [Tryz.ntmps70,Tryz.results70,za,zh,splice,Value.cells,Value.oneCell',Nat.reduceAdd,Nat.reduceSub,Nat.reduceMul,Nat.reduceLeDiff,Int.reduceEq,Nat.reduceEqDiff,A2Fs70])
  have y:Ext h (h.push (.cells #[.int .i64 e.d,.int .i64 e.f,.int .i64 e.t,.int .i64 e.a] 26)):=(Ext.refl h).push _
  refine⟨fun h1=>?_,fun h1=>⟨fun h2=>?_,fun h2=>⟨fun h3=>?_,fun h3=>⟨fun h4=>?_,fun h4=>⟨fun h5=>?_,fun h5=>⟨fun h6=>?_,fun h6=>⟨fun h7=>?_,fun h7=>⟨fun h8=>?_,fun h8=>?_⟩⟩⟩⟩⟩⟩⟩⟩
  all_goals refine⟨?_,y⟩
  case refine_9=>rw [if_pos (by unfold okE; omega)]
  all_goals rw [if_neg (by unfold okE; omega)]
theorem zrw (acc cl:Int)(sl:Value)(e:En)(b:Nat)(h:Eng.Heap)(hb:h[b]?=some (.cells #[.int .i64 acc,.int .i64 cl,sl] 24))(ha:-9223372036854775808<acc∧acc≤9223372036854775807) :
    zb Tryz.prog 74 #[.agg #[.int .i64 e.d,.int .i64 e.f,.int .i64 e.t,.int .i64 e.a],.pointer (some ⟨b,0,none⟩)] h (fun v h'=>v=.bool (!decide (okE acc e))∧Ext h h'):=by
  (refine ze Tryz.func74 rfl bod74 ?_; simp only [Tryz.ntmps74,Tryz.results74,za,zh,splice,Value.cells,Value.oneCell',Nat.reduceAdd,Nat.reduceSub,Nat.reduceMul,Nat.reduceLeDiff,Int.reduceEq,Nat.reduceEqDiff,zlg])
  have hne:¬ (b=h.size):=by have:=zt hb; omega
  simp only [hne,hb,if_false,za,Value.cells,Value.oneCell',Nat.reduceAdd,Nat.reduceSub,Nat.reduceMul,Nat.reduceLeDiff,Int.reduceEq,Nat.reduceEqDiff,zlg]
  refine zb.mono (stray65 acc e _ ha) ?_
  rintro v h1 ⟨rfl,x1⟩
  simp only [za,Value.cells,Value.oneCell',Nat.reduceAdd,Nat.reduceSub,Nat.reduceMul,Nat.reduceLeDiff,Int.reduceEq,Nat.reduceEqDiff,zlg]
  exact x1.of_push
theorem zq7 (x y:En)(h:Eng.Heap)(hd:InK .i64 (x.d - y.d)) :
    zb Tryz.prog 75 #[.agg #[.int .i64 x.d,.int .i64 x.f,.int .i64 x.t,.int .i64 x.a],.agg #[.int .i64 y.d,.int .i64 y.f,.int .i64 y.t,.int .i64 y.a]] h (fun v h'=>v=.int .i64 (x.d - y.d)∧Ext h h'):=by
  (refine ze Tryz.func75 rfl bod75 ?_; simp only [Tryz.ntmps75,Tryz.results75,za,zh,splice,Value.cells,Value.oneCell',Nat.reduceAdd,Nat.reduceSub,Nat.reduceMul,Nat.reduceLeDiff,Int.reduceEq,Nat.reduceEqDiff,A2Fs75])
  exact⟨hd,((Ext.refl h).push _).push _⟩
theorem zrG (e:En)(h:Eng.Heap) :
    zb Tryz.prog 78 #[.agg #[.int .i64 e.d,.int .i64 e.f,.int .i64 e.t,.int .i64 e.a]] h (fun v h'=>v=.bool (decide (e.f=e.t))∧Ext h h'):=by
  (refine ze Tryz.func78 rfl bod78 ?_; simp only [Tryz.ntmps78,Tryz.results78,za,zh,splice,Value.cells,Value.oneCell',Nat.reduceAdd,Nat.reduceSub,Nat.reduceMul,Nat.reduceLeDiff,Int.reduceEq,Nat.reduceEqDiff,A2Fs78])
  exact (Ext.refl h).push _
def idxE (p:En→Bool)(es:List En):Int:=match es.findIdx? p with | some i=>i | none=>-1
theorem zr2 {p:En→Bool}{es:List En}(H:∀ e∈es,p e=false):idxE p es=-1:=by
  have:es.findIdx? p=none:=by rw [List.findIdx?_eq_none_iff]; exact fun x hx=>by simp [H x hx]
  simp [idxE,this]
theorem zqn {p:En→Bool}{es:List En}{i:Nat}(hi:i<es.length)(H:∀ e∈es.take i,p e=false)(hp:p es[i]=true):idxE p es=i:=by
  have:es.findIdx? p=some i:=by
    rw [List.findIdx?_eq_some_iff_getElem]
    refine⟨hi,hp,fun j hj=>?_⟩
    have hj':j<es.length:=by omega
    have:=H es[j] (by rw [List.mem_take_iff_getElem]; exact⟨j,by omega,rfl⟩)
    simp [this]
  simp [idxE,this]
theorem znD (a:Option Addr)(n c:Nat)(es:List En)(q:FuncId)(caps:Array Value)(p:En→Bool)(h:Eng.Heap)(hr:Row h a (ensV es))(hn:n=es.length)(hl:n≤1000000)
    (hq:∀ e∈es,∀ h',Ext h h'→zb Tryz.prog q (#[]++#[.agg #[.int .i64 e.d,.int .i64 e.f,.int .i64 e.t,.int .i64 e.a]]++caps) h' (fun v h''=>v=.bool (p e)∧Ext h' h'')) :
    zb Tryz.prog 66 #[.slice a n c,.func (.func q) #[] caps] h (fun v h'=>v=.int .i64 (idxE p es)∧Ext h h'):=by
  (refine ze Tryz.func66 rfl bod66 ?_; simp only [Tryz.ntmps66,Tryz.results66,za,zh,splice,Value.cells,Value.oneCell',Nat.reduceAdd,Nat.reduceSub,Nat.reduceMul,Nat.reduceLeDiff,Int.reduceEq,Nat.reduceEqDiff,zgD])
  refine zo [4,5,8,9,10,11,12,13,14,15,16,17,18] (fun g h'=>∃ i:Nat,i≤n∧g 8=.int .i64 i∧(∀ e∈es.take i,p e=false)∧Ext h h') (fun g _=>match g 8 with | .int _ m=>n - m.toNat | _=>0) ?_ ?_
  · exact⟨0,by omega,rfl,by simp,Ext.refl h⟩
  · rintro g h' ⟨i,hin,hg8,hno,hx⟩
    by_cases hi:i<es.length
    · have hsm:a.isSome=true:=hr.isSome (by rw [zaq]; omega)
      have hc1:zaK h' (eltP a (i*4)) 4=some [.int .i64 es[i].d,.int .i64 es[i].f,.int .i64 es[i].t,.int .i64 es[i].a]:=by
        have:=(hr.ext hx).cells (j:=i*4) (n:=4) (by rw [zaq]; omega) (by omega)
        rw [zhM es i hi] at this
        exact this
      simp only [hg8,hc1,za,Value.cells,Value.oneCell',Nat.reduceAdd,Nat.reduceSub,Nat.reduceMul,Nat.reduceLeDiff,Int.reduceEq,Nat.reduceEqDiff,zgD]
      refine⟨fun hlt=>⟨⟨by omega,by omega⟩,hsm,?_⟩,fun hge=>absurd hge (by omega)⟩
      refine zb.mono (hq _ (List.getElem_mem hi) _ hx) ?_
      rintro v h2 ⟨rfl,hx2⟩
      have htk:es.take (i+1)=es.take i++[es[i]]:=by rw [List.take_add_one,List.getElem?_eq_getElem hi]; rfl
      cases hp:p es[i]
      · simp only [za,Value.cells,Value.oneCell',Nat.reduceAdd,Nat.reduceSub,Nat.reduceMul,Nat.reduceLeDiff,Int.reduceEq,Nat.reduceEqDiff,zgD]
        refine⟨by rw [zf]; omega,zi (by kernel_rfl) ⟨i+1,by omega,rfl,fun e he=>?_,hx.trans hx2⟩ ?_⟩
        · rw [htk,List.mem_append,List.mem_singleton] at he
          rcases he with he | rfl
          · exact hno e he
          · exact hp
        · show n - ((i:Int)+1).toNat<n - (i:Int).toNat
          omega
      · simp only [za,Value.cells,Value.oneCell',Nat.reduceAdd,Nat.reduceSub,Nat.reduceMul,Nat.reduceLeDiff,Int.reduceEq,Nat.reduceEqDiff,zgD]
        exact⟨by rw [zqn hi hno hp],hx.trans hx2⟩
    · simp only [hg8,za,Value.cells,Value.oneCell',Nat.reduceAdd,Nat.reduceSub,Nat.reduceMul,Nat.reduceLeDiff,Int.reduceEq,Nat.reduceEqDiff,zgD]
      refine⟨fun hlt=>absurd hlt (by omega),fun hge=>?_⟩
      rw [List.take_of_length_le (by omega)] at hno
      exact⟨by rw [zr2 hno],hx⟩
theorem zeS (a:Option Addr)(n c:Nat)(es:List En)(q:FuncId)(caps:Array Value)(p:En→Bool)(h:Eng.Heap)(hr:Row h a (ensV es))(hn:n=es.length)(hl:n≤1000000)
    (hq:∀ e∈es,∀ h',Ext h h'→zb Tryz.prog q (#[]++#[.agg #[.int .i64 e.d,.int .i64 e.f,.int .i64 e.t,.int .i64 e.a]]++caps) h' (fun v h''=>v=.bool (p e)∧Ext h' h'')) :
    zb Tryz.prog 76 #[.slice a n c,.func (.func q) #[] caps] h (fun v h'=>v=.bool (es.any p)∧Ext h h'):=by
  (refine ze Tryz.func76 rfl bod76 ?_; simp only [Tryz.ntmps76,Tryz.results76,za,zh,splice,Value.cells,Value.oneCell',Nat.reduceAdd,Nat.reduceSub,Nat.reduceMul,Nat.reduceLeDiff,Int.reduceEq,Nat.reduceEqDiff])
  refine zb.mono (znD a n c es q caps p h hr hn hl hq) ?_
  rintro v h2 ⟨rfl,hx⟩
  simp only [za,Value.cells,Value.oneCell',Nat.reduceAdd,Nat.reduceSub,Nat.reduceMul,Nat.reduceLeDiff,Int.reduceEq,Nat.reduceEqDiff]
  refine⟨?_,hx⟩
  congr 1
  unfold idxE
  cases hf:es.findIdx? p with
  | none=>
    rw [List.findIdx?_eq_none_iff] at hf
    have:es.any p=false:=by rw [List.any_eq_false]; intro x hx; simp [hf x hx]
    simp [this]
  | some i=>
    rw [List.findIdx?_eq_some_iff_getElem] at hf
    obtain⟨hi,hp,_⟩:=hf
    have:es.any p=true:=by rw [List.any_eq_true]; exact⟨es[i],List.getElem_mem hi,hp⟩
    simp [this]
theorem rowE {h:Eng.Heap}{a:Option Addr}{es:List En}(hr:Row h a (ensV es)){i:Nat}(hi:i<es.length):zaK h (eltP a (i*4)) 4=some [.int .i64 es[i].d,.int .i64 es[i].f,.int .i64 es[i].t,.int .i64 es[i].a]:=by
  have:=hr.cells (j:=i*4) (n:=4) (by rw [zaq]; omega) (by omega)
  rw [zhM es i hi] at this
  exact this
def zda (es:List En):Prop:=∀ i (hi:i+1<es.length),(es[i]'(by omega)).d≤es[i+1].d
theorem zo3 (a:Option Addr)(n c:Nat)(es:List En)(h:Eng.Heap)(hr:Row h a (ensV es))(hn:n=es.length)(hl:n≤1000000)(hd:∀ e∈es,0≤e.d∧e.d≤1000000) :
    zb Tryz.prog 77 #[.slice a n c,.func (.func 75) #[] #[]] h (fun v h'=>∃ b:Bool,v=.bool b∧(b=true↔zda es)∧Ext h h'):=by
  (refine ze Tryz.func77 rfl bod77 ?_; simp only [Tryz.ntmps77,Tryz.results77,za,zh,splice,Value.cells,Value.oneCell',Nat.reduceAdd,Nat.reduceSub,Nat.reduceMul,Nat.reduceLeDiff,Int.reduceEq,Nat.reduceEqDiff,zdo])
  refine⟨by rw [zf]; omega,?_⟩
  refine zo [4,5,9,10,11,12,13,14,15,16,17,18,19,20,21,22,23,24] (fun g h'=>∃ i:Int,-1≤i∧i<n∧g 5=.int .i64 i∧(∀ j (hj:j+1<es.length),i<j+1→(es[j]'(by omega)).d≤es[j+1].d)∧Ext h h') (fun g _=>match g 5 with | .int _ m=>(m+1).toNat | _=>0) ⟨(n:Int) - 1,by omega,by omega,rfl,fun j hj h1=>by omega,Ext.refl h⟩ ?_
  rintro g h' ⟨i,hi1,hin,hg5,hs,hx⟩
  by_cases hi:0<i
  · obtain⟨k,rfl⟩:∃ k:Nat,i=(k:Int)+1:=⟨(i - 1).toNat,by omega⟩
    have hk:k+1<es.length:=by omega
    have hsm:a.isSome=true:=hr.isSome (by rw [zaq]; omega)
    have hc1:=rowE (hr.ext hx) hk
    have hc2:=rowE (hr.ext hx) (show k<es.length by omega)
    have t1:((k:Int)+1).toNat=k+1:=by omega
    have t2:((k:Int)+1 - 1)=k:=by omega
    have d1:=hd _ (List.getElem_mem hk)
    have d2:=hd _ (List.getElem_mem (show k<es.length by omega))
    simp only [hg5,hi,decide_true,za,Value.cells,Value.oneCell',Nat.reduceAdd,Nat.reduceSub,Nat.reduceMul,Nat.reduceLeDiff,Int.reduceEq,Nat.reduceEqDiff,zdo]
    refine zam (by kernel_rfl) zjx [(0,0),(1,0),(2,0),(3,0),(4,0),(5,0),(6,0),(7,0),(8,0),(9,0),(10,0),(11,0)] (by kernel_rfl) rfl (by kernel_rfl) ?_
    simp only [hg5,t1,t2,hc1,hc2,Int.toNat_natCast,za,Value.cells,Value.oneCell',Nat.reduceAdd,Nat.reduceSub,Nat.reduceMul,Nat.reduceLeDiff,Int.reduceEq,Nat.reduceEqDiff,zx,zdo]
    refine⟨by omega,hsm,by rw [zf]; omega,by omega,hsm,?_⟩
    refine cQ_ext _ (fun h2 x2=>zb.mono (zq7 es[k+1] es[k] h2 (by rw [zf]; omega)) fun v h3 q=>⟨q.1,q.2⟩) ?_
    by_cases hlt:es[k+1].d - es[k].d<0
    · simp only [hlt,decide_true,za,Value.cells,Value.oneCell',Nat.reduceAdd,Nat.reduceSub,Nat.reduceMul,Nat.reduceLeDiff,Int.reduceEq,Nat.reduceEqDiff,zx,zdo]
      refine zi3 fun h2 x2=>?_
      simp only [za,Value.cells,Value.oneCell',Nat.reduceAdd,Nat.reduceSub,Nat.reduceMul,Nat.reduceLeDiff,Int.reduceEq,Nat.reduceEqDiff,zx,zdo]
      exact⟨false,rfl,⟨fun hf=>(by cases hf),fun hs=>by have:=hs k hk; omega⟩,hx.trans x2⟩
    · simp only [hlt,decide_false,za,Value.cells,Value.oneCell',Nat.reduceAdd,Nat.reduceSub,Nat.reduceMul,Nat.reduceLeDiff,Int.reduceEq,Nat.reduceEqDiff,zx,zdo]
      refine zi3 fun h2 x2=>?_
      simp only [za,Value.cells,Value.oneCell',Nat.reduceAdd,Nat.reduceSub,Nat.reduceMul,Nat.reduceLeDiff,Int.reduceEq,Nat.reduceEqDiff,zx,zdo]
      refine⟨by rw [zf]; omega,zi (by kernel_rfl) ⟨(k:Int)+1 - 1,by omega,by omega,rfl,fun j hj h1=>?_,hx.trans x2⟩ ?_⟩
      · by_cases hjk:j=k
        · subst hjk; omega
        · exact hs j hj (by omega)
      · show ((k:Int)+1 - 1+1).toNat<((k:Int)+1+1).toNat
        omega
  · simp only [hg5,hi,decide_false,za,Value.cells,Value.oneCell',Nat.reduceAdd,Nat.reduceSub,Nat.reduceMul,Nat.reduceLeDiff,Int.reduceEq,Nat.reduceEqDiff,zdo]
    exact⟨true,rfl,⟨fun _ j hj=>hs j hj (by omega),fun _=>rfl⟩,hx⟩
end Go.Proofs.YtepaekbjoombpaaGreatDoor
end
section
namespace Go.Proofs.YtepaekbjoombpaaGreatDoor
open Go Go.Proofs Go.Eng Tab
set_option maxRecDepth 100000
set_option linter.unusedSimpArgs false
set_option linter.unusedVariables false
set_option maxHeartbeats 1000000
set_option linter.defProp false
def zbK:=(And.intro (And.intro (And.intro @zin (And.intro @agg3 @by3)) (And.intro @zel (And.intro @fo24_1 @zgE))) (And.intro (And.intro @zi2 (And.intro @inf3 @sz22)) (And.intro (And.intro @sz3 @zbH) (And.intro @Tryz.underlying22 @Tryz.underlying40))))
noncomputable instance (es:List En):Decidable (zda es):=Classical.propDecidable _
noncomputable def chk (acc cl:Int)(es:List En):Int:=
  if ¬ (2≤acc∧acc≤8)∨20<es.length then 6
  else if ¬ (0≤cl∧cl≤30)∨¬ (∀ e∈es,okE acc e) then 3
  else if ¬ zda es∨∃ e∈es,e.f=e.t then 16
  else 0
theorem check25 (acc cl:Int)(a:Option Addr)(n c:Nat)(es:List En)(h:Eng.Heap)(hr:Row h a (ensV es))(hn:n=es.length)(hl:n≤1000000) :
    zb Tryz.prog 25 #[.agg #[.int .i64 acc,.int .i64 cl,.slice a n c]] h (fun v h'=>v=.int .i64 (chk acc cl es)∧Ext h h'):=by
  (refine ze Tryz.func25 rfl bod25 ?_; simp only [Tryz.ntmps25,Tryz.results25,za,zh,splice,Value.cells,Value.oneCell',Nat.reduceAdd,Nat.reduceSub,Nat.reduceMul,Nat.reduceLeDiff,Int.reduceEq,Nat.reduceEqDiff,zbK])
  refine zb.mono (zdc 2 8 _ 1 1 [acc] _ (zaB pn1) (by omega)) ?_
  rintro v h1 ⟨rfl,x1⟩
  have hb1:=x1.get pn0
  have y1:=x1.of_push.of_push
  by_cases ha:2≤acc∧acc≤8
  · by_cases hm:20<(n:Int)
    · have hc:chk acc cl es=6:=by unfold chk; rw [if_pos (.inr (by omega))]
      simp only [zcA,ha,hb1,hm,hc,and_self,decide_true,Bool.not_true,za,Value.cells,Value.oneCell',Nat.reduceAdd,Nat.reduceSub,Nat.reduceMul,Nat.reduceLeDiff,Int.reduceEq,Nat.reduceEqDiff,zbK]
      exact y1
    · simp only [zcA,ha,hb1,hm,and_self,decide_true,decide_false,Bool.not_true,za,Value.cells,Value.oneCell',Nat.reduceAdd,Nat.reduceSub,Nat.reduceMul,Nat.reduceLeDiff,Int.reduceEq,Nat.reduceEqDiff,zbK]
      refine zb.mono (zdc 0 30 _ 1 1 [cl] _ (zaB zu) (by omega)) ?_
      rintro v h2 ⟨rfl,x2⟩
      have hb2:=x2.of_push.get hb1
      have y2:=y1.trans x2.of_push
      by_cases hcl:0≤cl∧cl≤30
      · simp only [zcA,hcl,hb2,and_self,decide_true,Bool.not_true,za,Value.cells,Value.oneCell',Nat.reduceAdd,Nat.reduceSub,Nat.reduceMul,Nat.reduceLeDiff,Int.reduceEq,Nat.reduceEqDiff,zbK]
        refine zb.mono (zeS a n c es 74 _ (fun e=>!decide (okE acc e)) h2 (hr.ext y2) hn hl fun e _ h' x'=>zrw acc cl _ e _ h' (x'.get hb2) (by omega)) ?_
        rintro v h3 ⟨rfl,x3⟩
        have hb3:=x3.get hb2
        have y3:=y2.trans x3
        by_cases hall:∀ e∈es,okE acc e
        · have hany:(es.any fun e=>!decide (okE acc e))=false:=by
            rw [List.any_eq_false]; intro e he; simp [hall e he]
          simp only [hany,hb3,za,Value.cells,Value.oneCell',Nat.reduceAdd,Nat.reduceSub,Nat.reduceMul,Nat.reduceLeDiff,Int.reduceEq,Nat.reduceEqDiff,zbK]
          refine zb.mono (zo3 a n c es h3 (hr.ext y3) hn hl fun e he=>by have:=(hall e he).1; omega) ?_
          rintro v h4 ⟨b,rfl,hb,x4⟩
          have hb4:=x4.get hb3
          have y4:=y3.trans x4
          cases b with
          | false=>
            have hs:¬ zda es:=fun hs=>by have:=hb.2 hs; cases this
            have hc:chk acc cl es=16:=by
              unfold chk
              rw [if_neg (by omega),if_neg (by rintro (h | h); exact h hcl; exact h hall),if_pos (.inl hs)]
            simp only [hb4,hc,za,Value.cells,Value.oneCell',Nat.reduceAdd,Nat.reduceSub,Nat.reduceMul,Nat.reduceLeDiff,Int.reduceEq,Nat.reduceEqDiff,zbK]
            exact y4
          | true=>
            have hs:zda es:=hb.1 rfl
            simp only [hb4,za,Value.cells,Value.oneCell',Nat.reduceAdd,Nat.reduceSub,Nat.reduceMul,Nat.reduceLeDiff,Int.reduceEq,Nat.reduceEqDiff,zbK]
            refine zb.mono (zeS a n c es 78 #[] (fun e=>decide (e.f=e.t)) h4 (hr.ext y4) hn hl fun e _ h' x'=>zrG e h') ?_
            rintro v h5 ⟨rfl,x5⟩
            have y5:=y4.trans x5
            by_cases hex:∃ e∈es,e.f=e.t
            · have hany2:(es.any fun e=>decide (e.f=e.t))=true:=by
                obtain⟨e,he,h1⟩:=hex
                rw [List.any_eq_true]; exact⟨e,he,by simp [h1]⟩
              have hc:chk acc cl es=16:=by
                unfold chk
                rw [if_neg (by omega),if_neg (by rintro (h | h); exact h hcl; exact h hall),if_pos (.inr hex)]
              simp only [hany2,hc,za,Value.cells,Value.oneCell',Nat.reduceAdd,Nat.reduceSub,Nat.reduceMul,Nat.reduceLeDiff,Int.reduceEq,Nat.reduceEqDiff,zbK]
              exact y5
            · have hany2:(es.any fun e=>decide (e.f=e.t))=false:=by
                rw [List.any_eq_false]; intro e he; simp; exact fun h1=>hex ⟨e,he,h1⟩
              have hc:chk acc cl es=0:=by
                unfold chk
                rw [if_neg (by omega),if_neg (by rintro (h | h); exact h hcl; exact h hall),if_neg (by rintro (h | h); exact h hs; exact hex h)]
              simp only [hany2,hc,za,Value.cells,Value.oneCell',Nat.reduceAdd,Nat.reduceSub,Nat.reduceMul,Nat.reduceLeDiff,Int.reduceEq,Nat.reduceEqDiff,zbK]
              exact y5
        · have hany:(es.any fun e=>!decide (okE acc e))=true:=by
            rw [List.any_eq_true]
            simp only [Classical.not_forall] at hall
            obtain⟨e,he,h1⟩:=hall
            exact⟨e,he,by simp [h1]⟩
          have hc:chk acc cl es=3:=by unfold chk; rw [if_neg (by omega),if_pos (.inr hall)]
          simp only [hany,hc,za,Value.cells,Value.oneCell',Nat.reduceAdd,Nat.reduceSub,Nat.reduceMul,Nat.reduceLeDiff,Int.reduceEq,Nat.reduceEqDiff,zbK]
          exact y3
      · have hc:chk acc cl es=3:=by unfold chk; rw [if_neg (by omega),if_pos (.inl hcl)]
        simp only [zcA,hcl,hc,decide_false,Bool.not_false,za,Value.cells,Value.oneCell',Nat.reduceAdd,Nat.reduceSub,Nat.reduceMul,Nat.reduceLeDiff,Int.reduceEq,Nat.reduceEqDiff,zbK]
        exact y2
  · have hc:chk acc cl es=6:=by unfold chk; rw [if_pos (.inl ha)]
    simp only [zcA,ha,hc,decide_false,Bool.not_false,za,Value.cells,Value.oneCell',Nat.reduceAdd,Nat.reduceSub,Nat.reduceMul,Nat.reduceLeDiff,Int.reduceEq,Nat.reduceEqDiff,zbK]
    exact y1
end Go.Proofs.YtepaekbjoombpaaGreatDoor
end
section
namespace Go.Proofs.YtepaekbjoombpaaGreatDoor
open Go Go.Proofs Go.Eng Tab
set_option maxRecDepth 100000
set_option linter.unusedSimpArgs false
set_option linter.unusedVariables false
set_option maxHeartbeats 1000000
set_option linter.defProp false
def zbo:=(And.intro (And.intro (And.intro (And.intro @zin @zhm) (And.intro @agg3 @by26)) (And.intro (And.intro @zel @fo24_1) (And.intro @zgE @zff))) (And.intro (And.intro (And.intro @ze9 @zeT) (And.intro @zi2 @zg9)) (And.intro (And.intro @inf3 @sz22) (And.intro @sz26 (And.intro @sz3 @Tryz.underlying22)))))
theorem zO {P:Program}{R:Eng.Heap→Eng.Heap→Prop}{s:Tmp}{w:Bool}{op:Op}{ty:TypeId}{all:List Oper}{rest:List (Nat × Nat)}{k:Cont}{dst:Option Tmp}{e:Env}{d:List Deferred}{h:Eng.Heap}:gq P R undef s w op ty all rest k dst e d h=zP P R all rest k (putE e dst undef) d h:=zlO
theorem Row.addr {h:Eng.Heap}{a:Option Addr}{cs:List Value}(H:Row h a cs)(hl:0<cs.length):∃ g off,a=some ⟨g,off,none⟩:=by
  rcases H with H | ⟨g,off,cur,ct,fr,h1,_⟩
  · simp [H] at hl
  · exact⟨g,off,h1⟩
theorem rowF {h:Eng.Heap}{g off:Nat}{es:List En}(hr:Row h (some ⟨g,off,none⟩) (ensV es)){j:Nat}(hj:j<es.length)(k:Nat)(hk:k<4):zT h (some ⟨g,off+j*4+k,none⟩)=(enV es[j])[k]?:=by
  have h1:=hr.cell (j:=j*4+k) (by rw [zaq]; omega)
  have h2:=zoR es j k hj hk
  rw [List.getElem?_eq_getElem (by rw [zaq]; omega)] at h2
  rw [zab] at h1
  rw [Nat.add_assoc,h1,h2]
theorem zoN (acc cl:Int)(a:Option Addr)(n c:Nat)(es:List En)(h:Eng.Heap)(hr:Row h a (ensV es))(hn:n=es.length)(hl:n≤1000000) :
    zb Tryz.prog 26 #[.agg #[.int .i64 acc,.int .i64 cl,.slice a n c]] h (fun v h'=>v=.int .i64 (chk acc cl es)∧Ext h h'):=by
  (refine ze Tryz.func26 rfl bod26 ?_; simp only [Tryz.ntmps26,Tryz.results26,za,zh,splice,Value.cells,Value.oneCell',Nat.reduceAdd,Nat.reduceSub,Nat.reduceMul,Nat.reduceLeDiff,Int.reduceEq,Nat.reduceEqDiff,zbo])
  have x0:Ext h (h.push (.cells #[.int .i64 acc,.int .i64 cl,.slice a n c] 24)):=(Ext.refl h).push _
  have key:∀ {p:Prop},chk acc cl es=6→p→Value.int .i64 6=Value.int .i64 (chk acc cl es)∧p:=fun h hp=>⟨by rw [h],hp⟩
  refine⟨fun h1=>?_,fun h1=>⟨fun h2=>?_,fun h2=>⟨fun h3=>?_,fun h3=>?_⟩⟩⟩
  · exact key (by unfold chk; rw [if_pos (.inl (by omega))]) x0
  · exact key (by unfold chk; rw [if_pos (.inl (by omega))]) x0
  · exact key (by unfold chk; rw [if_pos (.inr (by omega))]) x0
  have x0b:(h.push (.cells #[.int .i64 acc,.int .i64 cl,.slice a n c] 24))[h.size]?=some (.cells #[.int .i64 acc,.int .i64 cl,.slice a n c] 24):=zu
  refine⟨fun h4=>?_,fun h4=>⟨fun h5=>?_,fun h5=>?_⟩⟩
  · exact⟨by rw [chk,if_neg (by omega),if_pos (.inl (by omega))],x0⟩
  · exact⟨by rw [chk,if_neg (by omega),if_pos (.inl (by omega))],x0⟩
  have k3:∀ {e:En},e∈es→¬ okE acc e→chk acc cl es=3:=fun he hk=>by rw [chk,if_neg (by omega),if_pos (.inr fun hh=>hk (hh _ he))]
  refine zo [2,3,27,28,29,30,31,32,33,34,35,36,37,38,39,40,41,42] (fun g h'=>∃ i:Nat,i≤n∧g 3=.int .i64 i∧(∀ e∈es.take i,okE acc e)∧Ext (h.push (.cells #[.int .i64 acc,.int .i64 cl,.slice a n c] 24)) h') (fun g _=>match g 3 with | .int _ m=>n - m.toNat | _=>0) ⟨0,by omega,rfl,by simp,Ext.refl _⟩ ?_
  rintro g h' ⟨i,hin,hg3,hok,hx⟩
  have hb:=hx.get x0b
  have hxe:=x0.trans hx
  by_cases hi:i<es.length
  · have hsm:a.isSome=true:=hr.isSome (by rw [zaq]; omega)
    have hc1:=rowE (hr.ext hxe) hi
    simp only [hg3,hb,za,Value.cells,Value.oneCell',Nat.reduceAdd,Nat.reduceSub,Nat.reduceMul,Nat.reduceLeDiff,Int.reduceEq,Nat.reduceEqDiff,zbo]
    refine⟨fun _=>?_,fun hge=>absurd hge (by omega)⟩
    refine zam (by kernel_rfl) zjx [(0,0),(1,0),(2,0),(3,0),(4,0),(5,0),(6,0),(7,0),(8,0)] (by kernel_rfl) rfl (by kernel_rfl) ?_
    simp only [hg3,hb,hc1,Int.toNat_natCast,za,Value.cells,Value.oneCell',Nat.reduceAdd,Nat.reduceSub,Nat.reduceMul,Nat.reduceLeDiff,Int.reduceEq,Nat.reduceEqDiff,zx,zbo]
    refine⟨by omega,hsm,?_⟩
    refine cQ_ext _ (fun h2 x2=>zb.mono (zqk acc es[i] h2) fun v h3 q=>⟨q.1,q.2⟩) ?_
    have htk:es.take (i+1)=es.take i++[es[i]]:=by rw [List.take_add_one,List.getElem?_eq_getElem hi]; rfl
    by_cases ho:okE acc es[i]
    · simp only [ho,if_true,za,Value.cells,Value.oneCell',Nat.reduceAdd,Nat.reduceSub,Nat.reduceMul,Nat.reduceLeDiff,Int.reduceEq,Nat.reduceEqDiff,zx,zbo]
      refine zi3 fun h2 x2=>?_
      simp only [za,Value.cells,Value.oneCell',Nat.reduceAdd,Nat.reduceSub,Nat.reduceMul,Nat.reduceLeDiff,Int.reduceEq,Nat.reduceEqDiff,zx,zbo]
      refine⟨by rw [zf]; omega,zi (by kernel_rfl) ⟨i+1,by omega,rfl,fun e he=>?_,hx.trans x2⟩ ?_⟩
      · rw [htk,List.mem_append,List.mem_singleton] at he
        rcases he with he | rfl
        · exact hok e he
        · exact ho
      · show n - ((i:Int)+1).toNat<n - (i:Int).toNat
        omega
    · simp only [ho,if_false,za,Value.cells,Value.oneCell',Nat.reduceAdd,Nat.reduceSub,Nat.reduceMul,Nat.reduceLeDiff,Int.reduceEq,Nat.reduceEqDiff,zx,zbo]
      refine zi3 fun h2 x2=>?_
      simp only [za,Value.cells,Value.oneCell',Nat.reduceAdd,Nat.reduceSub,Nat.reduceMul,Nat.reduceLeDiff,Int.reduceEq,Nat.reduceEqDiff,zx,zbo]
      exact⟨by rw [k3 (List.getElem_mem hi) ho],hxe.trans x2⟩
  · obtain rfl:i=n:=by omega
    rw [List.take_of_length_le (by omega)] at hok
    simp only [hg3,hb,za,Value.cells,Value.oneCell',Nat.reduceAdd,Nat.reduceSub,Nat.reduceMul,Nat.reduceLeDiff,Int.reduceEq,Nat.reduceEqDiff,zbo]
    refine⟨fun hlt=>absurd hlt (by omega),fun _=>?_⟩
    have k16:(¬ zda es∨∃ e∈es,e.f=e.t)→chk acc cl es=16:=fun hh=>by rw [chk,if_neg (by omega),if_neg (by rintro (h6 | h6); exact h6 ⟨by omega,by omega⟩; exact h6 hok),if_pos hh]
    refine zo [2,4,43,44,45,46,47,48,49,50,51,52,53,54,55,56,57,58,59,60,61,62,63,64,65,66,67,68,69,70,71,72,73,74,75,76,77,78,79,80,81,82] (fun g h''=>∃ j:Nat,j≤i∧g 4=.int .i64 j∧(∀ e∈es.take j,e.f≠e.t)∧(∀ k (hk:k+1<es.length),k+1<j→(es[k]'(by omega)).d≤es[k+1].d)∧Ext h' h'') (fun g _=>match g 4 with | .int _ m=>i - m.toNat | _=>0) ⟨0,by omega,rfl,by simp,fun k hk h6=>by omega,Ext.refl _⟩ ?_
    rintro g2 h2 ⟨j,hjn,hg4,hne,hso,hx2⟩
    have hb2:=hx2.get hb
    have hxe2:=hxe.trans hx2
    by_cases hj:j<es.length
    · have hsm:a.isSome=true:=hr.isSome (by rw [zaq]; omega)
      obtain⟨g0,off,rfl⟩:=Row.addr hr (by rw [zaq]; omega)
      have hr2:=hr.ext hxe2
      have c1:zT h2 (some ⟨g0,off+j*4+1,none⟩)=some (.int .i64 es[j].f):=rowF hr2 hj 1 (by omega)
      have c2:zT h2 (some ⟨g0,off+j*4+2,none⟩)=some (.int .i64 es[j].t):=rowF hr2 hj 2 (by omega)
      have c0:zT h2 (some ⟨g0,off+j*4,none⟩)=some (.int .i64 es[j].d):=rowF hr2 hj 0 (by omega)
      simp only [hg4,hb2,za,Value.cells,Value.oneCell',Nat.reduceAdd,Nat.reduceSub,Nat.reduceMul,Nat.reduceLeDiff,Int.reduceEq,Nat.reduceEqDiff,zbo]
      refine⟨fun _=>?_,fun hge=>absurd hge (by omega)⟩
      refine zam (by kernel_rfl) zaM [(0,0),(1,0),(2,0),(3,0),(4,0),(5,0),(6,0),(7,0),(8,0),(9,0),(10,0),(11,0),(12,0),(13,0),(14,0),(15,0),(16,0),(17,0),(18,0),(19,0),(20,0),(21,0),(22,0),(23,0),(24,0),(25,0),(26,0),(27,0),(28,0),(29,0),(30,0),(31,0),(32,0)] (by kernel_rfl) rfl (by kernel_rfl) ?_
      by_cases hft:es[j].f=es[j].t
      · simp only [hg4,hb2,c1,c2,c0,hft,zO,decide_true,zab,Nat.add_zero,Int.toNat_natCast,za,Value.cells,Value.oneCell',Nat.reduceAdd,Nat.reduceSub,Nat.reduceMul,Nat.reduceLeDiff,Int.reduceEq,Nat.reduceEqDiff,zx,zbo]
        refine⟨by omega,by first | rfl | trivial,by omega,by first | rfl | trivial,?_⟩
        exact⟨by rw [k16 (.inr ⟨_,List.getElem_mem hj,hft⟩)],hxe2⟩
      · have htk:es.take (j+1)=es.take j++[es[j]]:=by rw [List.take_add_one,List.getElem?_eq_getElem hj]; rfl
        have hne':∀ e∈es.take (j+1),e.f≠e.t:=fun e he=>by
          rw [htk,List.mem_append,List.mem_singleton] at he
          rcases he with he | rfl
          · exact hne e he
          · exact hft
        rcases j with _ | m
        · have hz:¬ ((0:Nat):Int) > 0:=by omega
          have hz2:¬ (0:Int)<((0:Nat):Int):=by omega
          simp only [hg4,hb2,c1,c2,c0,hft,hz,hz2,zO,decide_false,zab,Nat.add_zero,Int.toNat_natCast,za,Value.cells,Value.oneCell',Nat.reduceAdd,Nat.reduceSub,Nat.reduceMul,Nat.reduceLeDiff,Int.reduceEq,Nat.reduceEqDiff,zx,zbo]
          refine⟨by omega,by first | rfl | trivial,by omega,by first | rfl | trivial,?_⟩
          refine⟨by rw [zf]; omega,zi (by kernel_rfl) ⟨1,by omega,rfl,hne',fun k hk h6=>by omega,hx2⟩ ?_⟩
          show i - ((0:Int)+1).toNat<i - (0:Int).toNat
          omega
        · have hz2:(0:Int)<((m+1:Nat):Int):=by omega
          have t1:(((m+1:Nat):Int) - 1).toNat=m:=by omega
          have hm:m<es.length:=by omega
          have c3:zT h2 (some ⟨g0,off+m*4,none⟩)=some (.int .i64 es[m].d):=rowF hr2 hm 0 (by omega)
          by_cases hlt:es[m+1].d<es[m].d
          · simp only [hg4,hb2,c1,c2,c0,c3,t1,hft,hz2,hlt,zO,decide_true,decide_false,zab,Nat.add_zero,Int.toNat_natCast,za,Value.cells,Value.oneCell',Nat.reduceAdd,Nat.reduceSub,Nat.reduceMul,Nat.reduceLeDiff,Int.reduceEq,Nat.reduceEqDiff,zx,zbo]
            repeat (refine And.intro (by first | omega | (rw [zf]; omega) | rfl | assumption) ?_)
            exact⟨by rw [k16 (.inl fun hs=>by have:=hs m hj; omega)],hxe2⟩
          · simp only [hg4,hb2,c1,c2,c0,c3,t1,hft,hz2,hlt,zO,decide_true,decide_false,zab,Nat.add_zero,Int.toNat_natCast,za,Value.cells,Value.oneCell',Nat.reduceAdd,Nat.reduceSub,Nat.reduceMul,Nat.reduceLeDiff,Int.reduceEq,Nat.reduceEqDiff,zx,zbo]
            repeat (refine And.intro (by first | omega | (rw [zf]; omega) | rfl | assumption) ?_)
            refine zi (by kernel_rfl) ⟨m+1+1,by omega,rfl,hne',fun k hk h6=>?_,hx2⟩ ?_
            · by_cases hkm:k=m
              · subst hkm; omega
              · exact hso k hk (by omega)
            · show i - (((m+1:Nat):Int)+1).toNat<i - ((m+1:Nat):Int).toNat
              omega
    · obtain rfl:j=i:=by omega
      rw [List.take_of_length_le (by omega)] at hne
      simp only [hg4,hb2,za,Value.cells,Value.oneCell',Nat.reduceAdd,Nat.reduceSub,Nat.reduceMul,Nat.reduceLeDiff,Int.reduceEq,Nat.reduceEqDiff,zbo]
      refine⟨fun hlt=>absurd hlt (by omega),fun _=>?_⟩
      have hc:chk acc cl es=0:=by
        rw [chk,if_neg (by omega),if_neg (by rintro (h6 | h6); exact h6 ⟨by omega,by omega⟩; exact h6 hok),if_neg]
        rintro (h6 | ⟨e,he,h6⟩)
        · exact h6 fun k hk=>hso k hk (by omega)
        · exact hne e he h6
      exact⟨by rw [hc],hxe2⟩
end Go.Proofs.YtepaekbjoombpaaGreatDoor
end
section
namespace Go.Proofs.YtepaekbjoombpaaGreatDoor
open Go Go.Proofs Go.Eng Tab
set_option maxRecDepth 100000
set_option linter.unusedSimpArgs false
set_option linter.unusedVariables false
set_option maxHeartbeats 1000000
set_option linter.defProp false
def A5Fs17:=(And.intro (And.intro @zin @zgE) (And.intro @zi2 (And.intro @sz22 @Tryz.underlying22)))
def zgF:=(And.intro (And.intro @zbV (And.intro @fps150_0 @zbS)) (And.intro @okf150 (And.intro @sz24 @zero150)))
def ziG:=(And.intro @zbV (And.intro @zbS @sz24))
noncomputable def opn (acc cl:Int)(es:List En)(days:List Int):Int:=if chk acc cl es≠0 then chk acc cl es else if inB 0 30 days then 0 else 3
theorem zfb (acc cl:Int)(a:Option Addr)(n c:Nat)(es:List En)(b:Option Addr)(m k:Nat)(days:List Int)(h:Eng.Heap)(hr:Row h a (ensV es))(hn:n=es.length)(hl:n≤1000000)(hd:zJ h b m days)(hm:m≤1000000) :
    zb Tryz.prog 72 #[.agg #[.int .i64 acc,.int .i64 cl,.slice a n c],.slice b m k] h (fun v h'=>Ext h h' ∧
      ((opn acc cl es days=0∧∃ g,v=.tuple #[.pointer (some ⟨g,0,none⟩),.int .i64 0]∧h'[g]?=some (.cells #[.int .i64 acc,.int .i64 cl,.slice a n c] 150)∧h.size≤g) ∨
       (opn acc cl es days≠0∧v=.tuple #[.pointer none,.int .i64 (opn acc cl es days)]))):=by
  (refine ze Tryz.func72 rfl bod72 ?_; simp only [Tryz.ntmps72,Tryz.results72,za,zh,splice,Value.cells,Value.oneCell',Nat.reduceAdd,Nat.reduceSub,Nat.reduceMul,Nat.reduceLeDiff,Int.reduceEq,Nat.reduceEqDiff,zgF])
  have x0:Ext h (h.push (.cells #[.int .i64 acc,.int .i64 cl,.slice a n c] 24)):=(Ext.refl h).push _
  refine zb.mono (check25 acc cl a n c es _ (hr.push _) hn hl) ?_
  rintro v h1 ⟨rfl,x1⟩
  have hb1:=x1.get (zu (h:=h))
  have y1:=x0.trans x1
  by_cases hc:chk acc cl es=0
  · have e1:opn acc cl es days=if inB 0 30 days then 0 else 3:=by rw [opn,if_neg (by simpa using hc)]
    simp only [hc,za,Value.cells,Value.oneCell',Nat.reduceAdd,Nat.reduceSub,Nat.reduceMul,Nat.reduceLeDiff,Int.reduceEq,Nat.reduceEqDiff,zgF]
    refine zb.mono (zdc 0 30 b m k days h1 (hd.ext y1) hm) ?_
    rintro v h2 ⟨rfl,x2⟩
    have hb2:=x2.get hb1
    have y2:=y1.trans x2
    cases hin:inB 0 30 days with
    | true=>
      rw [hin] at e1
      simp only [hb2,splice,za,Value.cells,Value.oneCell',Nat.reduceAdd,Nat.reduceSub,Nat.reduceMul,Nat.reduceLeDiff,Int.reduceEq,Nat.reduceEqDiff,zgF]
      exact⟨y2.push _,.inl ⟨by simpa using e1,h2.size,rfl,by simp,y2.size⟩⟩
    | false=>
      rw [hin] at e1
      have e2:opn acc cl es days=3:=e1
      simp only [hb2,za,Value.cells,Value.oneCell',Nat.reduceAdd,Nat.reduceSub,Nat.reduceMul,Nat.reduceLeDiff,Int.reduceEq,Nat.reduceEqDiff,zgF]
      exact⟨y2,.inr ⟨by rw [e2]; omega,by rw [e2]⟩⟩
  · have e1:opn acc cl es days=chk acc cl es:=by rw [opn,if_pos hc]
    simp only [hc,decide_false,Bool.not_false,za,Value.cells,Value.oneCell',Nat.reduceAdd,Nat.reduceSub,Nat.reduceMul,Nat.reduceLeDiff,Int.reduceEq,Nat.reduceEqDiff,zgF]
    exact⟨y1,.inr ⟨by rw [e1]; exact hc,by rw [e1]⟩⟩
theorem zca (acc cl:Int)(a:Option Addr)(n c:Nat)(es:List En)(day:Int)(h:Eng.Heap)(hr:Row h a (ensV es))(hn:n=es.length)(hl:n≤1000000) :
    zb Tryz.prog 73 #[.agg #[.int .i64 acc,.int .i64 cl,.slice a n c],.int .i64 day] h (fun v h'=>v=.int .i64 (opn acc cl es [day])∧Ext h h'):=by
  (refine ze Tryz.func73 rfl bod73 ?_; simp only [Tryz.ntmps73,Tryz.results73,za,zh,splice,Value.cells,Value.oneCell',Nat.reduceAdd,Nat.reduceSub,Nat.reduceMul,Nat.reduceLeDiff,Int.reduceEq,Nat.reduceEqDiff,ziG])
  have x0:Ext h (h.push (.cells #[.int .i64 acc,.int .i64 cl,.slice a n c] 24)):=(Ext.refl h).push _
  refine zb.mono (zoN acc cl a n c es _ (hr.push _) hn hl) ?_
  rintro v h1 ⟨rfl,x1⟩
  have hb1:=x1.get (zu (h:=h))
  have y1:=x0.trans x1
  by_cases hc:chk acc cl es=0
  · have e1:opn acc cl es [day]=if inB 0 30 [day] then 0 else 3:=by rw [opn,if_neg (by simpa using hc)]
    rw [zcA] at e1
    simp only [hc,za,Value.cells,Value.oneCell',Nat.reduceAdd,Nat.reduceSub,Nat.reduceMul,Nat.reduceLeDiff,Int.reduceEq,Nat.reduceEqDiff,ziG]
    refine⟨fun h2=>?_,fun h2=>⟨fun h3=>?_,fun h3=>?_⟩⟩
    · refine⟨?_,y1⟩
      have:¬ (0≤day∧day≤30):=by omega
      rw [e1]; simp [this]
    · refine⟨?_,y1⟩
      have:¬ (0≤day∧day≤30):=by omega
      rw [e1]; simp [this]
    · refine⟨?_,y1⟩
      have:(0≤day∧day≤30):=by omega
      rw [e1]; simp [this]
  · have e1:opn acc cl es [day]=chk acc cl es:=by rw [opn,if_pos hc]
    simp only [hc,hb1,decide_false,Bool.not_false,za,Value.cells,Value.oneCell',Nat.reduceAdd,Nat.reduceSub,Nat.reduceMul,Nat.reduceLeDiff,Int.reduceEq,Nat.reduceEqDiff,ziG]
    refine zb.mono (zoN acc cl a n c es _ (hr.ext y1) hn hl) ?_
    rintro v h2 ⟨rfl,x2⟩
    simp only [e1,za,Value.cells,Value.oneCell',Nat.reduceAdd,Nat.reduceSub,Nat.reduceMul,Nat.reduceLeDiff,Int.reduceEq,Nat.reduceEqDiff,ziG]
    exact y1.trans x2
theorem great17 (acc cl:Int)(a:Option Addr)(n c:Nat)(h:Eng.Heap) :
    zb Tryz.prog 17 #[.agg #[.int .i64 acc,.int .i64 cl,.slice a n c]] h (fun v h'=>v=.bool (decide (26<(n:Int)))∧Ext h h'):=by
  (refine ze Tryz.func17 rfl bod17 ?_; simp only [Tryz.ntmps17,Tryz.results17,za,zh,splice,Value.cells,Value.oneCell',Nat.reduceAdd,Nat.reduceSub,Nat.reduceMul,Nat.reduceLeDiff,Int.reduceEq,Nat.reduceEqDiff,A5Fs17])
  exact (Ext.refl h).push _
end Go.Proofs.YtepaekbjoombpaaGreatDoor
end
section
namespace Go.Proofs.YtepaekbjoombpaaGreatDoor
open Go Go.Proofs Go.Eng Tab
def amt (day i:Int)(e:En):Int:=if e.d≤day then (if e.t=i then e.a else 0) - (if e.f=i then e.a else 0) else 0
def balA (es:List En)(day i:Int):Int:=(es.map (amt day i)).sum
def bals (n:Nat)(es:List En)(day:Int):List Int:=(List.range n).map fun i:Nat=>balA es day i
theorem zm (n:Nat)(es:List En)(day:Int):(bals n es day).length=n:=by simp [bals]
theorem zL {n i:Nat}(es:List En)(day:Int)(hi:i<n):(bals n es day).getD i 0=balA es day i:=by simp [bals,List.getD,hi]
theorem zde (es fs:List En)(day i:Int):balA (es++fs) day i=balA es day i+balA fs day i:=by simp [balA]
theorem zb0 (e:En)(es:List En)(day i:Int):balA (e::es) day i=amt day i e+balA es day i:=by simp [balA]
theorem zh7 (day i:Int):balA [] day i=0:=rfl
theorem zlm (e:En)(day i:Int):balA [e] day i=amt day i e:=by simp [balA]
theorem zlQ (n:Nat)(day:Int):bals n [] day=List.replicate n 0:=by
  apply List.ext_getElem <;> simp [bals,balA]
theorem zqx {acc:Int}{e:En}(he:okE acc e)(day i:Int):-1000≤amt day i e∧amt day i e≤1000:=by
  obtain⟨_,_,_,h1,h2⟩:=he
  unfold amt
  split <;> (try split) <;> (try split) <;> omega
theorem zbG {acc:Int}(day i:Int):∀ {es:List En},(∀ e∈es,okE acc e)→-(1000*(es.length:Int))≤balA es day i∧balA es day i≤1000*(es.length:Int)
  | [],_=>by simp [balA]
  | e::es,H=>by
    have h1:=zqx (H e (List.mem_cons_self ..)) day i
    have h2:=zbG day i (es:=es) fun x hx=>H x (List.mem_cons_of_mem _ hx)
    rw [zb0,List.length_cons]
    push_cast
    omega
theorem zfr {xs ys:List Int}(hl:xs.length=ys.length)(H:∀ i<xs.length,xs.getD i 0=ys.getD i 0):xs=ys:=by
  apply List.ext_getElem hl
  intro i h1 h2
  have:=H i h1
  simpa [List.getD,List.getElem?_eq_getElem h1,List.getElem?_eq_getElem h2] using this
theorem zdb (xs:List Int)(i j:Nat)(v:Int):(xs.set i v).getD j 0=if i=j∧i<xs.length then v else xs.getD j 0:=by
  simp only [List.getD,List.getElem?_set]
  by_cases h:i=j
  · subst h
    by_cases h2:i<xs.length <;> simp [h2]
  · simp [h]
def zdI (xs:List Int)(f t:Nat)(m:Int):List Int:=(xs.set f (xs.getD f 0 - m)).set t ((xs.set f (xs.getD f 0 - m)).getD t 0+m)
def zgX (xs:List Int)(f t:Nat)(m:Int):List Int:=(xs.set t (xs.getD t 0+m)).set f ((xs.set t (xs.getD t 0+m)).getD f 0 - m)
theorem zen (xs:List Int)(f t:Nat)(m:Int):(zdI xs f t m).length=xs.length:=by simp [zdI]
theorem zl0 (xs:List Int)(f t:Nat)(m:Int):(zgX xs f t m).length=xs.length:=by simp [zgX]
theorem zkn {xs:List Int}{f t i:Nat}(m:Int)(hf:f<xs.length)(ht:t<xs.length):(zdI xs f t m).getD i 0=xs.getD i 0 - (if f=i then m else 0)+(if t=i then m else 0):=by
  simp only [zdI,zdb,List.length_set]
  by_cases h1:t=i <;> by_cases h2:f=i <;> by_cases h3:f=t <;> simp_all <;> omega
theorem zrr {xs:List Int}{f t i:Nat}(m:Int)(hf:f<xs.length)(ht:t<xs.length):(zgX xs f t m).getD i 0=xs.getD i 0 - (if f=i then m else 0)+(if t=i then m else 0):=by
  simp only [zgX,zdb,List.length_set]
  by_cases h1:t=i <;> by_cases h2:f=i <;> by_cases h3:f=t <;> simp_all <;> omega
theorem zj8 {n:Nat}{es:List En}{e:En}{day:Int}(hd:¬ e.d≤day):bals n (es++[e]) day=bals n es day:=by
  unfold bals
  refine List.map_congr_left fun i _=>?_
  rw [zde,zlm,amt,if_neg hd]; omega
theorem zeB {n:Nat}{es:List En}{e:En}{day:Int}{f t:Nat}(hd:e.d≤day)(hf:e.f=f)(ht:e.t=t)(hfn:f<n)(htn:t<n):zdI (bals n es day) f t e.a=bals n (es++[e]) day:=by
  refine zfr (by rw [zen,zm,zm]) fun i hi=>?_
  rw [zen,zm] at hi
  rw [zkn _ (by rw [zm]; exact hfn) (by rw [zm]; exact htn),zL _ _ hi,zL _ _ hi,zde,zlm,amt,if_pos hd,hf,ht]
  simp only [Int.ofNat_inj]
  omega
theorem zp7 {n:Nat}{es:List En}{e:En}{day:Int}{f t:Nat}(hd:e.d≤day)(hf:e.f=f)(ht:e.t=t)(hfn:f<n)(htn:t<n):zgX (bals n es day) f t e.a=bals n (es++[e]) day:=by
  rw [← zeB hd hf ht hfn htn]
  refine zfr (by rw [zen,zl0]) fun i hi=>?_
  rw [zrr _ (by rw [zm]; exact hfn) (by rw [zm]; exact htn),zkn _ (by rw [zm]; exact hfn) (by rw [zm]; exact htn)]
theorem zdD {es:List En}{i:Nat}(hi:i<es.length):es.take (i+1)=es.take i++[es[i]]:=by rw [List.take_add_one,List.getElem?_eq_getElem hi]; rfl
end Go.Proofs.YtepaekbjoombpaaGreatDoor
end
