/- Texts joined by pack.py: lemmas for YtepaekbjoombpaaGreatDoorFiled. No condition. -/
import Derived.Test.YtepaekbjoombpaaGreatDoorPG8
import Derived.LoopNIn
import Derived.RangeFuncIn
import Derived.ProofKit
set_option linter.unusedSimpArgs false
set_option linter.unusedVariables false
set_option linter.defProp false
section
set_option linter.unusedVariables false
set_option linter.unusedSimpArgs false
namespace Go.Run
open Go Go.Eng
section draw
variable {P:Program} {p:Pr} {ι:Io} {s s':S} {h:Heap} {m:Fm} {e e':E} {er:Env} {ty:TypeId} {t:T} {K:Value→Heap→Prop} {cf:zan}
theorem zcG {α:Type}{f:Nat→α→Bool}:∀ {l:List α} {i:Nat},allI f l i=true→∀ j x,l[j]?=some x→f (i+j) x=true
  | [],i,_,j,x,hx=>by simp at hx
  | y::l,i,h,j,x,hx=>by
    simp only [allI] at h
    split at h
    · rename_i hy
      cases j with
      | zero=>simp at hx; subst hx; exact hy
      | succ j=>
        have:=zcG h j x (by simpa using hx)
        rwa [Nat.succ_add_eq_add_succ] at this
    · cases h
theorem ziC {α:Type}{f:Nat→α→Bool}:∀ {l:List α} {i:Nat},anyI f l i=true→∃ j x,l[j]?=some x∧f (i+j) x=true
  | [],i,h=>by simp [anyI] at h
  | y::l,i,h=>by
    simp only [anyI] at h
    split at h
    · rename_i hy; exact⟨0,y,rfl,hy⟩
    · obtain⟨j,x,h1,h2⟩:=ziC h
      exact⟨j+1,x,by simpa using h1,by rwa [Nat.succ_add_eq_add_succ] at h2⟩
theorem zde {i:Nat}:∀ {l:List Nat},hasN i l=true↔i∈l
  | []=>by simp [hasN]
  | j::l=>by
    simp only [hasN,List.mem_cons]
    by_cases h:i=j
    · subst h; simp
    · have:Nat.beq i j=false:=by cases hb:Nat.beq i j with | false=>rfl | true=>exact absurd (Nat.eq_of_beq_eq_true hb) h
      rw [this]
      simp only [zde,h,false_or]
theorem zd7 {k:Nat}:is2 k=true↔k=2:=⟨fun h=>Nat.eq_of_beq_eq_true h,fun h=>by subst h; rfl⟩
structure zfZ (all:List Oper)(l:List (Oper × PO)):Prop where
  dep:∀ {i:Nat} {x:Oper × PO},l[i]?=some x→∀ d∈deps x.1,d<i
  kind:∀ {i:Nat} {x:Oper × PO},l[i]?=some x→x.2.k=kindOf x.1.op
  lole:∀ {i:Nat} {x:Oper × PO},l[i]?=some x→x.2.lo≤i
  lo:∀ {i:Nat} {x:Oper × PO},l[i]?=some x→x.2.lo=0∨∃ (c d:Nat) (y:Oper × PO),x.2.lo=c+1∧d∈deps x.1∧l[d]?=some y∧((y.2.k=2∧c=d)∨y.2.lo=c+1)
  hi:∀ {i:Nat} {x:Oper × PO},l[i]?=some x→l.length≤x.2.hi∨∃ (j:Nat) (y:Oper × PO),l[j]?=some y∧i∈deps y.1∧((y.2.k=2∧x.2.hi=j)∨y.2.hi=x.2.hi)
  chain:∀ {i:Nat} {x:Oper × PO},l[i]?=some x→x.2.k=2→∀ {j:Nat} {y:Oper × PO},l[j]?=some y→j<i→y.2.k=2→j<x.2.lo
  slots:∀ {i:Nat} {x:Oper × PO},l[i]?=some x→∀ {j:Nat} {y:Oper × PO},l[j]?=some y→i≠j→∀ q,y.1.dst=some q→x.1.dst≠some q∧(q∈looks all x.1→j∈deps x.1∨i∈deps y.1)
theorem zjI {all:List Oper}{l:List (Oper × PO)}(h:planOk all l=true):zfZ all l:=by
  have h0:=fun i x hx=>zcG h i x hx
  simp only [Nat.zero_add,Bool.and_eq_true] at h0
  refine⟨?_,?_,?_,?_,?_,?_,?_⟩
  · intro i x hx d hd
    have:=(h0 i x hx).1.1.1.1.1.1
    exact zax.1 (List.all_eq_true.1 this d hd)
  · intro i x hx; exact Nat.eq_of_beq_eq_true (h0 i x hx).1.1.1.1.1.2
  · intro i x hx; exact zf.1 (h0 i x hx).1.1.1.1.2
  · intro i x hx
    have:=(h0 i x hx).1.1.1.2
    unfold loOk at this
    split at this
    · rename_i hz; exact .inl hz
    · rename_i c hc
      obtain⟨d,h1,h2⟩:=List.any_eq_true.1 this
      split at h2
      · rename_i y hy
        refine .inr ⟨c,d,y,hc,h1,hy,?_⟩
        simp only [Bool.or_eq_true,Bool.and_eq_true] at h2
        rcases h2 with h2 | h2
        · exact .inl ⟨zd7.1 h2.1,Nat.eq_of_beq_eq_true h2.2⟩
        · exact .inr (Nat.eq_of_beq_eq_true h2)
      · cases h2
  · intro i x hx
    have:=(h0 i x hx).1.1.2
    unfold hiOk at this
    simp only [Bool.or_eq_true] at this
    rcases this with h1 | h1
    · exact .inl (zf.1 h1)
    · obtain⟨j,y,h2,h3⟩:=ziC h1
      simp only [Nat.zero_add,Bool.and_eq_true,Bool.or_eq_true] at h3
      refine .inr ⟨j,y,h2,zde.1 h3.1,?_⟩
      rcases h3.2 with h4 | h4
      · exact .inl ⟨zd7.1 h4.1,Nat.eq_of_beq_eq_true h4.2⟩
      · exact .inr (Nat.eq_of_beq_eq_true h4)
  · intro i x hx hk j y hy hj hky
    have:=(h0 i x hx).1.2
    unfold zmg at this
    rw [zd7.2 hk] at this
    have:=zcG this j y hy
    simp only [Nat.zero_add] at this
    rw [zax.2 hj,zd7.2 hky] at this
    exact zax.1 this
  · intro i x hx j y hy hij q hq
    have:=(h0 i x hx).2
    unfold zmv at this
    have:=zcG this j y hy
    simp only [Nat.zero_add,hq] at this
    have hb:Nat.beq i j=false:=by cases hb:Nat.beq i j with | false=>rfl | true=>exact absurd (Nat.eq_of_beq_eq_true hb) hij
    rw [hb] at this
    simp only [Bool.false_or,Bool.and_eq_true,Bool.not_eq_true',Bool.or_eq_true] at this
    refine⟨fun hd=>?_,fun hl=>?_⟩
    · have h1:=this.1
      unfold zjK at h1
      rw [hd] at h1
      have h1:Nat.beq q q=false:=h1
      have:Nat.beq q q=true:=Nat.beq_refl q
      rw [this] at h1; cases h1
    · rcases this.2 with (h1 | h1) | h1
      · rw [zde.2 hl] at h1; cases h1
      · exact .inl (zde.1 h1)
      · exact .inr (zde.1 h1)
section plan
variable {all:List Oper} {l:List (Oper × PO)} (F:zfZ all l) {f:Nat→Bool}
noncomputable def Closed (l:List (Oper × PO))(f:Nat→Bool):Prop:=∀ i x,l[i]?=some x→f i=true→∀ d∈deps x.1,f d=true
include F
theorem zmd (hc:Closed l f):∀ (i:Nat) (x:Oper × PO),l[i]?=some x→(∀ d∈deps x.1,f d=true)→x.2.lo=0∨∃ c y,x.2.lo=c+1∧l[c]?=some y∧y.2.k=2∧f c=true:=by
  intro i
  induction i using Nat.strongRecOn with
  | _ i ih=>
    intro x hx hd
    rcases F.lo hx with h | ⟨c,d,y,h1,h2,h3,h4⟩
    · exact .inl h
    · rcases h4 with⟨h4,rfl⟩ | h4
      · exact .inr ⟨c,y,h1,h3,h4,hd _ h2⟩
      · have hfd:=hd _ h2
        rcases ih d (F.dep hx d h2) y h3 (hc d y h3 hfd) with h5 | ⟨c',y',h5,h6⟩
        · omega
        · obtain rfl:c'=c:=by omega
          exact .inr ⟨c',y',h1,h6⟩
theorem before (hc:Closed l f):∀ (c:Nat) (x:Oper × PO),l[c]?=some x→x.2.k=2→(∀ d∈deps x.1,f d=true)→∀ c' y,l[c']?=some y→c'<c→y.2.k=2→f c'=true:=by
  intro c
  induction c using Nat.strongRecOn with
  | _ c ih=>
    intro x hx hk hd c' y hy hlt hky
    have h1:=F.chain hx hk hy hlt hky
    have h2:=F.lole hx
    rcases zmd F hc c x hx hd with h3 | ⟨c0,z,h3,h4,h5,h6⟩
    · omega
    · by_cases hcc:c'=c0
      · subst hcc; exact h6
      · exact ih c0 (by omega) z h4 h5 (hc c0 z h4 h6) c' y hy (by omega) hky
theorem zl3 (hc:Closed l f):∀ (k i:Nat) (x:Oper × PO),l.length - i≤k→l[i]?=some x→f i=false→l.length≤x.2.hi∨∃ y,l[x.2.hi]?=some y∧y.2.k=2∧f x.2.hi=false:=by
  intro k
  induction k with
  | zero=>
    intro i x hk hx _
    have:=(List.getElem?_eq_some_iff.1 hx).1
    omega
  | succ k ih=>
    intro i x hk hx hf
    rcases F.hi hx with h | ⟨j,y,h1,h2,h3⟩
    · exact .inl h
    · have hij:=F.dep h1 i h2
      have hfj:f j=false:=by
        cases hb:f j with
        | false=>rfl
        | true=>have:=hc j y h1 hb i h2; rw [hf] at this; cases this
      rcases h3 with⟨h3,h4⟩ | h3
      · exact .inr ⟨y,by rw [h4]; exact h1,h3,by rw [h4]; exact hfj⟩
      · rw [← h3]
        exact ih j y (by omega) h1 hfj
omit F in
theorem zgd (l:List (Oper × PO)):∀ (k i:Nat),l.length - i≤k→i≤l.length→∃ q,i≤q∧q≤l.length∧(∀ y,l[q]?=some y→y.2.k=2)∧∀ j y,i≤j→j<q→l[j]?=some y→y.2.k≠2:=by
  intro k
  induction k with
  | zero=>
    intro i hk hi
    exact⟨l.length,hi,Nat.le_refl _,by simp,fun j y h1 h2=>by omega⟩
  | succ k ih=>
    intro i hk hi
    by_cases hi':i=l.length
    · subst hi'
      exact⟨l.length,Nat.le_refl _,Nat.le_refl _,by simp,fun j y h1 h2=>by omega⟩
    · have hlt:i<l.length:=by omega
      by_cases h2:l[i].2.k=2
      · refine⟨i,Nat.le_refl _,hi,fun y hy=>?_,fun j y h1 h2=>by omega⟩
        rw [List.getElem?_eq_getElem hlt] at hy
        cases hy; exact h2
      · obtain⟨q,q1,q2,q3,q4⟩:=ih (i+1) (by omega) (by omega)
        refine⟨q,by omega,q2,q3,fun j y h3 h4 hy=>?_⟩
        by_cases hj:j=i
        · subst hj
          rw [List.getElem?_eq_getElem hlt] at hy
          cases hy; exact h2
        · exact q4 j y (by omega) h4 hy
end plan
noncomputable def recE (rs:List Rec)(ef:E)(i:Nat):E:=match rs[i]? with | some r=>r.e | none=>ef
noncomputable def recS (rs:List Rec)(sf:S)(i:Nat):S:=match rs[i]? with | some r=>r.s | none=>sf
noncomputable def eLg (m:Fm)(L:Nat→Bool):List Rec→Nat→E→E
  | [],_,e=>e
  | r::rs,i,e=>eLg m L rs (i+1) (if L i then putT m e r.o.dst r.t else e)
theorem zlU {β:Type}(s:S)(k:S→β):sFix s k=k s:=by cases s; rfl
noncomputable def z8 (rs:List Rec):List Rec:=rs.filter fun r=>r.ob.isSome
theorem zeY {r:Rec}{rs:List Rec}(h:r.ob.isSome=true):z8 (r::rs)=r::z8 rs:=by unfold z8; simp [h]
theorem zfu {r:Rec}{rs:List Rec}(h:r.ob=none):z8 (r::rs)=z8 rs:=by unfold z8; simp [h]
structure RecF (p:Pr)(m:Fm)(cf:zan)(all:List Oper)(x:Oper × PO)(i:Nat)(al:List Rec)(r:Rec)(s':S):Prop where
  o:r.o=x.1
  po:r.po=x.2
  fit:∀ q,r.o.dst=some q→q<m.n
  want:wants m all r.o.guard r.e=some r.w
  skip:r.w=false→r.t=zae∧s'=r.s
  run:r.w=true→r.po.k≠3→zd4 p m cf r.o r.po.k r.e r.s (act al i r.s)=.ok (r.t,s')
  alc:r.w=true→r.po.k=3→∃ ob,r.ob=some ob∧zcq p m r.o r.e r.b=some (r.t,ob)∧s'=r.s
  none:(r.w=false∨r.po.k≠3)→r.ob=none
structure Tr (p:Pr)(m:Fm)(cf:zan)(all:List Oper)(i0:Nat)(al:List Rec)(nb:Nat)(l:List (Oper × PO))(e:E)(s:S)(rs:List Rec)(ef:E)(sf:S):Prop where
  len:rs.length=l.length
  zero:recS rs sf 0=s
  get:∀ i x,l[i]?=some x→∃ r,rs[i]?=some r∧RecF p m cf all x (i0+i) ((z8 (rs.take i)).reverse++al) r (recS rs sf (i+1))
  num:∀ i r,rs[i]?=some r→r.ob.isSome=true→r.b=nb+(z8 (rs.take i)).length
  cnt:(z8 rs).length≤zdg l
  env:∀ i b,i≤rs.length→recE rs ef i=eLg m (fun j=>decide (j<b+i)) rs b e
theorem zeB (L:Nat→Bool):∀ (rs:List Rec) (b:Nat) (e:E),(∀ j,b≤j→L j=false)→eLg m L rs b e=e
  | [],b,e,_=>rfl
  | r::rs,b,e,h=>by
    simp only [eLg,h b (Nat.le_refl _),Bool.false_eq_true,if_false]
    exact zeB L rs (b+1) e fun j hj=>h j (by omega)
theorem Tr.cons {all:List Oper}{i0 nb nb':Nat}{al al':List Rec}{l:List (Oper × PO)}{x:Oper × PO}{rs:List Rec}{ef:E}{sf s1:S}{r:Rec}(he:r.e=e)(hs:r.s=s)(H:Tr p m cf all (i0+1) al' nb' l (putT m e r.o.dst r.t) s1 rs ef sf)(hr:RecF p m cf all x i0 al r s1)
    (hal:(r.ob.isSome=true∧al'=r::al∧nb'=nb+1∧r.b=nb∧x.2.k=3)∨(r.ob=none∧al'=al∧nb'=nb)):Tr p m cf all i0 al nb (x::l) e s (r::rs) ef sf:=by
  have hrev:∀ i,(z8 ((r::rs).take (i+1))).reverse++al=(z8 (rs.take i)).reverse++al':=by
    intro i
    rw [List.take_succ_cons]
    rcases hal with⟨h1,h2,_⟩ | ⟨h1,h2,_⟩
    · rw [h2,zeY h1,List.reverse_cons,List.append_assoc]; rfl
    · rw [h2,zfu h1]
  refine⟨by simp [H.len],by simp [recS,hs],?_,?_,?_,?_⟩
  · intro i y hy
    cases i with
    | zero=>
      simp at hy; subst hy
      refine⟨r,rfl,?_⟩
      have:recS (r::rs) sf 1=s1:=by rw [← H.zero]; simp [recS]
      rw [this]; simpa [z8] using hr
    | succ i=>
      obtain⟨r',h1,h2⟩:=H.get i y (by simpa using hy)
      refine⟨r',by simpa using h1,?_⟩
      have:recS (r::rs) sf (i+1+1)=recS rs sf (i+1):=by simp [recS]
      rw [this,hrev,show i0+(i+1)=i0+1+i by omega]; exact h2
  · intro i r' hi hob
    cases i with
    | zero=>
      simp at hi; subst hi
      rcases hal with⟨_,_,_,h4,_⟩ | ⟨h1,_⟩
      · simp [z8,h4]
      · rw [h1] at hob; cases hob
    | succ i=>
      have h1:=H.num i r' (by simpa using hi) hob
      rw [h1,List.take_succ_cons]
      rcases hal with⟨g1,_,g3,_⟩ | ⟨g1,_,g3⟩
      · rw [zeY g1,g3,List.length_cons]; omega
      · rw [zfu g1,g3]
  · have h1:=H.cnt
    unfold zdg
    rcases hal with⟨g1,_,_,_,g5⟩ | ⟨g1,_⟩
    · rw [zeY g1,g5]
      have:Nat.beq 3 3=true:=rfl
      rw [this]
      simp only [List.length_cons]
      omega
    · rw [zfu g1]
      split
      · omega
      · exact h1
  · intro i b hi
    cases i with
    | zero=>
      rw [zeB]
      · simp [recE,he]
      · intro j hj; simp; omega
    | succ i=>
      have h1:=H.env i (b+1) (by simpa using hi)
      have h2:recE (r::rs) ef (i+1)=recE rs ef i:=by simp [recE]
      rw [h2,h1]
      simp only [eLg]
      rw [if_pos (by simp)]
      congr 1
      funext j
      congr 1
      simp; omega
theorem zdE {all:List Oper}:∀ {l:List (Oper × PO)} {i0:Nat} {al:List Rec} {nb:Nat} {e:E} {s:S} {k:E→S→List Rec→Res (E × S)} {r:E × S},zkG p m cf all l i0 al nb e s k=.ok r→∃ rs ef sf,Tr p m cf all i0 al nb l e s rs ef sf∧k ef sf rs=.ok r
  | [],i0,al,nb,e,s,k,r,h=>by
    have h:k e s []=.ok r:=h
    exact⟨[],e,s,⟨rfl,by simp [recS],by simp,by simp,by simp [z8],fun i b hi=>by simp [recE,eLg]⟩,h⟩
  | x::l,i0,al,nb,e,s,k,r,h=>by
    have h:zkJ p m cf all i0 x.1 x.2 (zkG p m cf all l (i0+1)) al nb e s k=.ok r:=h
    unfold zkJ at h
    split at h
    · rename_i hw
      split at h
      · rename_i hk3
        have hk3:=Nat.eq_of_beq_eq_true hk3
        split at h
        · rename_i t ob hal
          obtain⟨hd,h⟩:=zbS h
          obtain⟨rs,ef,sf,h1,h2⟩:=zdE h
          exact⟨_,ef,sf,Tr.cons (r:=⟨x.1,x.2,true,t,e,s,nb,some ob⟩) rfl rfl h1 ⟨rfl,rfl,hd,hw,fun h=>(by cases h),fun _ h=>absurd hk3 h,fun _ _=>⟨ob,rfl,hal,rfl⟩,fun h=>(by rcases h with h | h; cases h; exact absurd hk3 h)⟩ (.inl ⟨rfl,rfl,rfl,rfl,hk3⟩),h2⟩
        · cases h
      · rename_i hk3
        have hk3:x.2.k≠3:=fun hh=>by rw [hh] at hk3; cases hk3
        split at h
        · rename_i t s1 hk
          rw [zlU] at hk
          obtain⟨hd,h⟩:=zbS h
          obtain⟨rs,ef,sf,h1,h2⟩:=zdE h
          exact⟨_,ef,sf,Tr.cons (r:=⟨x.1,x.2,true,t,e,s,0,Option.none⟩) rfl rfl h1 ⟨rfl,rfl,hd,hw,fun h=>(by cases h),fun _ _=>hk,fun _ h=>absurd h hk3,fun _=>rfl⟩ (.inr ⟨rfl,rfl,rfl⟩),h2⟩
        · cases h
    · rename_i hw
      obtain⟨hd,h⟩:=zbS h
      obtain⟨rs,ef,sf,h1,h2⟩:=zdE h
      exact⟨_,ef,sf,Tr.cons (r:=⟨x.1,x.2,false,zae,e,s,0,Option.none⟩) rfl rfl h1 ⟨rfl,rfl,hd,hw,fun _=>⟨rfl,rfl⟩,fun h=>(by cases h),fun h=>(by cases h),fun _=>rfl⟩ (.inr ⟨rfl,rfl,rfl⟩),h2⟩
    · cases h
theorem zfp:∀ (al:List Rec) (q:Nat) (s:S),(act al q s).nx=s.nx∧(act al q s).low=s.low
  | [],q,s=>⟨rfl,rfl⟩
  | r::al,q,s=>by
    unfold act
    split
    · rename_i ob _
      split
      · have:=zfp al q (setV s r.b (some ob) s.nx s.low)
        rw [zas,za2] at this
        exact this
      · exact zfp al q s
    · exact zfp al q s
theorem zjF:∀ (al:List Rec) (q:Nat) (s:S) (c:Nat),(∀ r∈al,r.ob.isSome=true→r.po.hi=q→r.b≠c)→(act al q s).at c=s.at c
  | [],q,s,c,_=>rfl
  | r::al,q,s,c,h=>by
    have ih:=fun s=>zjF al q s c fun r hr=>h r (by simp [hr])
    unfold act
    split
    · rename_i ob hob
      split
      · rename_i hq
        rw [ih,zP,if_neg]
        intro hh
        exact h r (by simp) (by rw [hob]; rfl) (Nat.eq_of_beq_eq_true hq) hh.2.symm
      · exact ih s
    · exact ih s
noncomputable def Made (P:Program)(ι:Io)(h:Heap)(r:Rec):Prop:=∃ ob x obr,r.ob=some ob∧ι r.b=some x∧h[x.r]?=some obr∧OR P ι x ob obr∧∀ c y,ι c=some y→y.r=x.r→c=r.b
theorem zd2:∀ (al:List Rec) (q:Nat) {s:S},Sim P ι s h→(∀ r∈al,r.ob.isSome=true→r.po.hi=q→Made P ι h r)→Sim P ι (act al q s) h
  | [],q,s,H,_=>H
  | r::al,q,s,H,hm=>by
    unfold act
    split
    · rename_i ob hob
      split
      · rename_i hq
        obtain⟨ob',x,obr,h1,h2,h3,h4,h5⟩:=hm r (by simp) (by rw [hob]; rfl) (Nat.eq_of_beq_eq_true hq)
        rw [hob] at h1; cases h1
        exact zd2 al q (Sim.lay H h2 h3 h4 h5) fun r hr=>hm r (by simp [hr])
      · exact zd2 al q H fun r hr=>hm r (by simp [hr])
    · exact zd2 al q H fun r hr=>hm r (by simp [hr])
theorem zlW {ι1:Io}{s1:S}{h1:Heap}(H:Sim P ι s h)(q1:Ste ι s h ι1 s1 h1){al:List Rec}{q:Nat}(hb:∀ r∈al,r.ob.isSome=true→s.nx≤r.b):Ste ι s h ι1 (act al q s1) h1:=by
  obtain⟨hn,hl⟩:=zfp al q s1
  have hat:∀ c,c<s.nx→(act al q s1).at c=s1.at c:=fun c hc=>zjF al q s1 c fun r hr ho _=>by have:=hb r hr ho; omega
  refine⟨q1.sub,by rw [hn]; exact q1.nx,by rw [hl]; exact q1.low,q1.size,fun c hc h0=>by rw [hat c hc]; exact q1.dead c hc h0,fun c x hc=>by rw [hl]; exact q1.grow c x hc,fun c x hc ha=>?_,fun r hr hh=>q1.old r hr (by rw [hl] at hh; exact hh)⟩
  refine q1.am c x hc ?_
  unfold amAt at ha ⊢
  rw [hat c (H.fresh c x hc).1] at ha
  exact ha
theorem ziW {ι1 ι2:Io}{s1 s2:S}{h1 h2:Heap}(H:Sim P ι1 s1 h1)(q:Ste ι1 s1 h1 ι2 s2 h2){r:Rec}(hd:s1.at r.b=none)(hb:r.b<s1.nx):s2.at r.b=none∧(ι1 r.b=none→ι2 r.b=none)∧(Made P ι1 h1 r→Made P ι2 h2 r):=by
  refine⟨q.dead _ hb hd,fun hn=>?_,?_⟩
  · cases hx:ι2 r.b with
    | none=>rfl
    | some x=>
      rcases q.grow _ x hx with h3 | ⟨h3,_⟩
      · rw [hn] at h3; cases h3
      · omega
  · rintro⟨ob,x,obr,g1,g2,g3,g4,g5⟩
    refine⟨ob,x,obr,g1,q.sub _ _ g2,?_,g4.mono q.sub,fun c y hc hy=>?_⟩
    · rw [q.old x.r (H.fresh _ _ g2).2 fun c y hc hy=>.inl (by rw [g5 c y hc hy]; exact hd)]
      exact g3
    · rcases q.grow c y hc with h3 | ⟨_,h3⟩
      · exact g5 c y h3 hy
      · rcases h3 with h3 | ⟨c',y',h4,h5,_,h6⟩
        · have:=(H.fresh _ _ g2).2
          omega
        · have:=g5 c' y' h4 (h5.trans hy)
          rw [this] at h6
          exact absurd hd h6
theorem zd6 {x:Nat}(hf:m.n≤2 ^ m.dp)(hx:x<m.n){d:Option Tmp}(hd:∀ q,d=some q→q<m.n)(e:E)(v:T):En.get (Pa.of m.dp x) (putT m e d v)=if d=some x then v else En.get (Pa.of m.dp x) e:=by
  cases d with
  | none=>simp [putT]
  | some q=>
    have hq:=hd q rfl
    simp only [putT]
    rw [En.get_set_of (Nat.lt_of_lt_of_le hx hf) (Nat.lt_of_lt_of_le hq hf)]
    by_cases h:x=q
    · subst h; simp
    · rw [if_neg h,if_neg (by simp; exact fun h'=>h h'.symm)]
theorem zcB {x:Nat}(hf:m.n≤2 ^ m.dp)(hx:x<m.n){L L':Nat→Bool}:∀ {rs:List Rec} {b:Nat} {e e':E},(∀ r∈rs,∀ q,r.o.dst=some q→q<m.n)→(∀ j r,rs[j]?=some r→r.o.dst=some x→L (b+j)=L' (b+j)) →
    En.get (Pa.of m.dp x) e=En.get (Pa.of m.dp x) e'→En.get (Pa.of m.dp x) (eLg m L rs b e)=En.get (Pa.of m.dp x) (eLg m L' rs b e')
  | [],b,e,e',_,_,h=>h
  | r::rs,b,e,e',hfit,hL,h=>by
    simp only [eLg]
    refine zcB hf hx (fun r' hr'=>hfit r' (by simp [hr'])) (fun j r' hj hd=>by have:=hL (j+1) r' (by simpa using hj) hd; rwa [Nat.succ_add_eq_add_succ]) ?_
    have hr:=hfit r (by simp)
    by_cases hd:r.o.dst=some x
    · have h0:=hL 0 r (by simp) hd
      simp only [Nat.add_zero] at h0
      rw [h0]
      split
      · rw [zd6 hf hx hr,zd6 hf hx hr,if_pos hd,if_pos hd]
      · exact h
    · split <;> split <;> simp only [zd6 hf hx hr,if_neg hd,h]
theorem eLg_at {x:Nat}(hf:m.n≤2 ^ m.dp)(hx:x<m.n){L:Nat→Bool}:∀ {rs:List Rec} {b i:Nat} {e:E} {r:Rec},(∀ r∈rs,∀ q,r.o.dst=some q→q<m.n)→rs[i]?=some r→r.o.dst=some x→L (b+i)=true →
    (∀ j r',rs[j]?=some r'→j≠i→r'.o.dst≠some x)→En.get (Pa.of m.dp x) (eLg m L rs b e)=r.t
  | [],b,i,e,r,_,hi,_,_,_=>by simp at hi
  | r0::rs,b,0,e,r,hfit,hi,hd,hL,hne=>by
    simp at hi; subst hi
    simp only [Nat.add_zero] at hL
    simp only [eLg,hL,if_true]
    have h1:En.get (Pa.of m.dp x) (eLg m L rs (b+1) (putT m e r0.o.dst r0.t))=En.get (Pa.of m.dp x) (eLg m (fun _=>false) rs (b+1) (putT m e r0.o.dst r0.t)):=
      zcB hf hx (fun r' hr'=>hfit r' (by simp [hr'])) (fun j r' hj hd'=>absurd hd' (hne (j+1) r' (by simpa using hj) (by omega))) rfl
    rw [h1,zeB _ _ _ _ (fun _ _=>rfl),zd6 hf hx (hfit r0 (by simp)),if_pos hd]
  | r0::rs,b,i+1,e,r,hfit,hi,hd,hL,hne=>by
    simp only [eLg]
    refine eLg_at hf hx (i:=i) (fun r' hr'=>hfit r' (by simp [hr'])) (by simpa using hi) hd (by rwa [Nat.succ_add_eq_add_succ]) fun j r' hj hji=>hne (j+1) r' (by simpa using hj) (by omega)
theorem RE.same (re:RE ι m e er)(hg:∀ x,x<m.n→En.get (Pa.of m.dp x) e'=En.get (Pa.of m.dp x) e):RE ι m e' er:=
  ⟨re.len,re.fit,fun i hi=>by rw [hg i hi]; exact re.get i hi⟩
theorem zeN {o:Oper}{a:Act}{w:World}{K:Value→World→Prop}(H:ze P o.op o.type a.tmps.toList w.heap (fun v h'=>∀ w',w'.heap=h'→Eng.Rest w w'→K v w')):opSw P o a w K:=by
  unfold ze at H
  have h1:=H.2 w rfl
  refine⟨H.1,?_⟩
  have he:a.eval=ev a.tmps.toList:=by
    have:=zaw a.tmps.toList a.defers
    rw [Array.toArray_toList] at this
    exact this
  rw [he,zaq]
  unfold zaG at h1
  unfold zaK
  split at h1
  · rename_i v w' hr; exact⟨h1.1 w' rfl h1.2,h1.2⟩
  · rename_i w' hr; exact⟨h1.1 w' rfl h1.2,h1.2⟩
  · rename_i f args w' hr
    have h2:=h1.2
    unfold zaR at h2
    exact⟨h1.1,Calls.mono h2 fun e' w'' ⟨v,q1,q2,q3⟩=>⟨v,q1,q2 w'' rfl (h1.1.trans q3),q3⟩⟩
  · rename_i l' f tmps asg body w' hr
    exact⟨h1.1,RoundIn.mono h1.2 fun e' w'' ⟨v,q1,q2,q3⟩=>⟨v,q1,q2 w'' rfl (h1.1.trans q3),q3⟩⟩
  · exact h1.elim
end draw
end Go.Run
namespace Go.Run
open Go Go.Eng
section draw2
variable {P:Program} {p:Pr} {ι:Io} {s s':S} {h:Heap} {m:Fm} {e e':E} {er:Env} {ty:TypeId} {t:T} {K:Value→Heap→Prop} {cf:zan}
noncomputable def lis (listed:Array Bool)(j:Nat):Bool:=listed.getD j false
theorem zeI {rs:List Rec}{i:Nat}{r:Rec}(h:rs[i]?=some r)(ho:r.ob.isSome=true):(z8 (rs.take (i+1))).length=(z8 (rs.take i)).length+1:=by
  unfold z8
  rw [List.take_add_one,h,List.filter_append]
  simp [ho]
theorem zek {rs:List Rec}{i j:Nat}(h:i≤j):(z8 (rs.take i)).length≤(z8 (rs.take j)).length:=by
  unfold z8
  have:rs.take i=(rs.take j).take i:=by rw [List.take_take,Nat.min_eq_left h]
  rw [this]
  exact ((List.take_sublist i (rs.take j)).filter _).length_le
theorem zfy {rs:List Rec}{i:Nat}{r:Rec}(h:r∈(z8 (rs.take i)).reverse++[]):∃ j,j<i∧rs[j]?=some r∧r.ob.isSome=true:=by
  rw [List.append_nil,List.mem_reverse] at h
  unfold z8 at h
  rw [List.mem_filter] at h
  obtain⟨j,hj⟩:=List.getElem?_of_mem h.1
  rw [List.getElem?_take] at hj
  split at hj
  · rename_i hlt; exact⟨j,hlt,hj,h.2⟩
  · cases hj
section num
variable {all:List Oper} {L:List (Oper × PO)} {nb:Nat} {rs:List Rec} {ef:E} {sf:S}
theorem Tr.bne (T:Tr p m cf all 0 [] nb L e s rs ef sf){i j:Nat}{r r':Rec}(hi:rs[i]?=some r)(hj:rs[j]?=some r')(ho:r.ob.isSome=true)(ho':r'.ob.isSome=true)(hne:i≠j):r.b≠r'.b:=by
  have h1:=T.num i r hi ho
  have h2:=T.num j r' hj ho'
  rcases Nat.lt_or_gt_of_ne hne with hlt | hlt
  · have h3:=zeI hi ho
    have h4:=zek (rs:=rs) (show i+1≤j from hlt)
    omega
  · have h3:=zeI hj ho'
    have h4:=zek (rs:=rs) (show j+1≤i from hlt)
    omega
theorem Tr.blt (T:Tr p m cf all 0 [] nb L e s rs ef sf){i:Nat}{r:Rec}(hi:rs[i]?=some r)(ho:r.ob.isSome=true):nb≤r.b∧r.b<nb+zdg L:=by
  have h1:=T.num i r hi ho
  have h3:=zeI hi ho
  have hl:=(List.getElem?_eq_some_iff.1 hi).1
  have h4:=zek (rs:=rs) (show i+1≤rs.length from hl)
  rw [List.take_length] at h4
  have h5:=T.cnt
  omega
end num
theorem zoF {all:List Oper}{l:List (Oper × PO)}(F:zfZ all l){f:Nat→Bool}(hc:Closed l f){i:Nat}{x:Oper × PO}(hx:l[i]?=some x)(hd:∀ d∈deps x.1,f d=true) :
    ∀ (k j:Nat) (y:Oper × PO),l.length - j≤k→l[j]?=some y→y.2.hi=i→f j=true:=by
  have hil:=(List.getElem?_eq_some_iff.1 hx).1
  intro k
  induction k with
  | zero=>
    intro j y hk hy _
    have:=(List.getElem?_eq_some_iff.1 hy).1
    omega
  | succ k ih=>
    intro j y hk hy hh
    rcases F.hi hy with h | ⟨j',z,h1,h2,h3⟩
    · omega
    · have hij:=F.dep h1 j h2
      rcases h3 with⟨h3,h4⟩ | h3
      · have:j'=i:=by omega
        subst this
        rw [hx] at h1; cases h1
        exact hd j h2
      · exact hc j' z h1 (ih j' z (by omega) h1 (h3.trans hh)) j h2
theorem Ste.add {ι1:Io}{s1:S}{h1:Heap}(H:Ste ι s h ι1 s1 h1){b:Nat}(hn:ι1 b=none)(hb:s.nx≤b){obr:Obj}:Ste ι s h (ι1.put b ⟨h1.size,0,#[],0,0⟩) s1 (h1.push obr):=by
  have hsub:=Io.put_sub (x:=⟨h1.size,0,#[],0,0⟩) hn
  refine⟨fun c x hc=>hsub _ _ (H.sub _ _ hc),H.nx,H.low,by rw [Array.size_push]; have:=H.size; omega,H.dead,fun c x hc=>?_,H.am,fun r hr hh=>?_⟩
  · unfold Io.put at hc
    split at hc
    · rename_i hcb
      cases hc; subst hcb
      exact .inr ⟨hb,.inl H.size⟩
    · exact H.grow c x hc
  · rw [Array.getElem?_push,if_neg (by have:=H.size; omega)]
    exact H.old r hr hh
theorem znW {b:Nat}(hf:∀ b x,ι b=some x→b<s.nx∧x.r<h.size)(hn:ι b=none){r:Rec}{obr:Obj}(H:Made P ι h r):Made P (ι.put b ⟨h.size,0,#[],0,0⟩) (h.push obr) r:=by
  have hsub:=Io.put_sub (x:=⟨h.size,0,#[],0,0⟩) hn
  obtain⟨ob,x,ob',g1,g2,g3,g4,g5⟩:=H
  have hx:=(hf _ _ g2).2
  refine⟨ob,x,ob',g1,hsub _ _ g2,by rw [Array.getElem?_push,if_neg (by omega)]; exact g3,g4.mono hsub,fun c y hc hy=>?_⟩
  unfold Io.put at hc
  split at hc
  · cases hc
    have hy:h.size=x.r:=hy
    omega
  · exact g5 c y hc hy
noncomputable def Fl (P:Program)(rs:List Rec)(f:Nat→Bool)(ι:Io)(s:S)(h:Heap)(q:Nat):Prop:=
  ∀ i r,rs[i]?=some r→r.ob.isSome=true→q≤r.po.hi→s.at r.b=none∧r.b<s.nx∧(f i=true→Made P ι h r)∧(f i=false→ι r.b=none)
structure InvD (P:Program)(m:Fm)(L:List (Oper × PO))(rs:List Rec)(e:E)(sf:S)(ι:Io)(s:S)(h:Heap)(listed:Array Bool)(er:Env)(h':Heap):Prop where
  size:listed.size=L.length
  closed:Closed L (lis listed)
  st:∃ ι' q,q≤L.length∧(∀ y,L[q]?=some y→y.2.k=2∧lis listed q=false)∧(∀ j y,j<q→L[j]?=some y→y.2.k=2→lis listed j=true) ∧
    Ste ι s h ι' (recS rs sf q) h'∧Sim P ι' (recS rs sf q) h'∧RE ι' m (eLg m (lis listed) rs 0 e) er∧Fl P rs (lis listed) ι' (recS rs sf q) h' q
theorem zia {listed:Array Bool}{i:Nat}(hi:i<listed.size)(j:Nat):lis (listed.setIfInBounds i true) j=(if j=i then true else lis listed j):=by
  unfold lis
  by_cases h:j=i
  · subst h; simp [hi]
  · rw [if_neg h]; simp [Array.getD_eq_getD_getElem?,Array.getElem?_setIfInBounds_ne (Ne.symm h)]
theorem zdu {listed:Array Bool}{i:Nat}(hi:i<listed.size):listed.getD i true=lis listed i:=by
  unfold lis; simp [Array.getD_eq_getD_getElem?,hi]
theorem zic {ops:List Oper}{pl:List PO}(hl:pl.length=ops.length){i:Nat}{o:Oper}(ho:ops[i]?=some o):∃ po,(ops.zip pl)[i]?=some (o,po):=by
  obtain⟨h1,h2⟩:=List.getElem?_eq_some_iff.1 ho
  refine⟨pl[i]'(by omega),?_⟩
  rw [List.getElem?_zip_eq_some]
  exact⟨ho,List.getElem?_eq_getElem _⟩
theorem zip_ops {ops:List Oper}{pl:List PO}{i:Nat}{x:Oper × PO}(hx:(ops.zip pl)[i]?=some x):ops[i]?=some x.1:=by
  obtain⟨o,po⟩:=x
  rw [List.getElem?_zip_eq_some] at hx
  exact hx.1
theorem zkP {o:Oper}{d:Nat}:d∈deps o↔∃ e∈o.after,Region.binds .any e=true∧e.on=d:=by
  unfold deps
  simp only [List.mem_map,List.mem_filter,Array.mem_toList_iff]
  constructor
  · rintro⟨e,⟨h1,h2⟩,h3⟩; exact⟨e,h1,h2,h3⟩
  · rintro⟨e,h1,h2,h3⟩; exact⟨e,⟨h1,h2⟩,h3⟩
theorem zgT {all:List Oper}{L:List (Oper × PO)}{nb:Nat}{rs:List Rec}{ef:E}{sf:S}(T:Tr p m cf all 0 [] nb L e s rs ef sf):∀ (k i:Nat),i+k≤L.length→(∀ (j:Nat) (y:Oper × PO),i≤j→j<i+k→L[j]?=some y→y.2.k≠2)→(∀ (j:Nat) (y:Oper × PO),L[j]?=some y→y.2.k=0∨y.2.k=1∨y.2.k=2∨y.2.k=3)→recS rs sf (i+k)=recS rs sf i:=by
  intro k
  induction k with
  | zero=>intro i _ _ _; rfl
  | succ k ih=>
    intro i hi hl hk
    have hlt:i+k<L.length:=by omega
    obtain⟨r,h1,h2⟩:=T.get (i+k) _ (List.getElem?_eq_getElem hlt)
    have hne:=hl (i+k) _ (by omega) (by omega) (List.getElem?_eq_getElem hlt)
    have h3:=hk (i+k) _ (List.getElem?_eq_getElem hlt)
    have hs:recS rs sf (i+k+1)=r.s:=by
      cases hw:r.w with
      | false=>exact (h2.skip hw).2
      | true=>
        have h4:=h2.run hw
        rw [h2.po] at h4
        unfold zd4 at h4
        rcases h3 with h3 | h3 | h3 | h3
        · replace h4:=h4 (by omega)
          rw [h3] at h4
          simp only at h4
          split at h4
          · split at h4
            · simp only [Res.ok.injEq,Prod.mk.injEq] at h4; exact h4.2.symm
            · cases h4
          · cases h4
        · replace h4:=h4 (by omega)
          rw [h3] at h4
          simp only at h4
          split at h4
          · simp only [Res.ok.injEq,Prod.mk.injEq] at h4; exact h4.2.symm
          · cases h4
        · exact absurd h3 hne
        · obtain⟨ob,_,_,h5⟩:=h2.alc hw (by rw [h2.po]; exact h3)
          exact h5
    have he:recS rs sf (i+k)=r.s:=by simp [recS,h1]
    show recS rs sf (i+k+1)=_
    rw [hs,← he]
    exact ih i (by omega) (fun j y h1 h2=>hl j y h1 (by omega)) hk
theorem zhO (o:Op):kindOf o=0∨kindOf o=1∨kindOf o=2∨kindOf o=3:=by
  unfold kindOf
  split <;> first | (simp; done) | (split <;> simp)
section main
variable {ops:Array Oper} {pl:List PO} {rs:List Rec} {ef:E} {sf:S}
theorem znJ (ok:Ok P p)(hcf:zdG P cf)(hlen:pl.length=ops.toList.length)(F:zfZ ops.toList (ops.toList.zip pl)){s0:S}(T:Tr p m cf ops.toList 0 [] s.nx (ops.toList.zip pl) e s0 rs ef sf)
    (hrd:∀ r∈rs,zfT p m rs rs.length sf r=true) (hnx:∀ r∈rs,r.s.nx≤1000000) (hnf:sf.nx≤1000000) (H0:Sim P ι s h) {d:List Deferred} {w0:World} {listed:Array Bool} {a:Act} {w:World} (ha:a.defers=d) (hw0:Eng.Rest w0 w)
    (I:InvD P m (ops.toList.zip pl) rs e sf ι s h listed a.tmps.toList w.heap) {i:Nat} (hi:i∈Region.ready .any ops listed) :
    opD P ops i (fun a' w'=>a'.defers=d∧Eng.Rest w0 w'∧InvD P m (ops.toList.zip pl) rs e sf ι s h (listed.setIfInBounds i true) a'.tmps.toList w'.heap) a w:=by
  obtain⟨hun,o,ho,hall⟩:=mem_ready.1 hi
  have ho':ops.toList[i]?=some o:=by simpa using ho
  obtain⟨po,hx⟩:=zic hlen ho'
  have hilt:i<listed.size:=by rw [I.size]; exact (List.getElem?_eq_some_iff.1 hx).1
  have hfi:lis listed i=false:=by rw [← zdu hilt]; exact hun
  have hdeps:∀ d∈deps o,lis listed d=true:=by
    intro d hd
    obtain⟨e',h1,h2,h3⟩:=zkP.1 hd
    have:=hall e' h1 h2
    rw [h3] at this
    exact this
  have hset:=zia (listed:=listed) (i:=i) hilt
  have hcl:Closed (ops.toList.zip pl) (lis (listed.setIfInBounds i true)):=by
    intro j x hj hf d hd
    rw [hset] at hf ⊢
    split
    · rfl
    · split at hf
      · rename_i hji
        subst hji
        rw [hx] at hj; cases hj
        exact hdeps d hd
      · exact I.closed j x hj hf d hd
  obtain⟨r,hr,R⟩:=T.get i _ hx
  obtain⟨ι',q,hq,hq1,hq2,g1,g2,g3,g4⟩:=I.st
  have hfits:∀ r∈rs,∀ q,r.o.dst=some q→q<m.n:=by
    intro r hr q hq
    obtain⟨j,hj⟩:=List.getElem?_of_mem hr
    have hjl:j<(ops.toList.zip pl).length:=by rw [← T.len]; exact (List.getElem?_eq_some_iff.1 hj).1
    obtain⟨r',h1,h2⟩:=T.get j _ (List.getElem?_eq_getElem hjl)
    rw [hj] at h1; cases h1
    exact h2.fit q hq
  have hrec:∀ (j:Nat) (r:Rec),rs[j]?=some r→∃ y:Oper × PO,(ops.toList.zip pl)[j]?=some y∧r.o=y.1:=by
    intro j r hj
    have hjl:j<(ops.toList.zip pl).length:=by rw [← T.len]; exact (List.getElem?_eq_some_iff.1 hj).1
    obtain⟨r',h1,h2⟩:=T.get j _ (List.getElem?_eq_getElem hjl)
    rw [hj] at h1; cases h1
    exact⟨_,List.getElem?_eq_getElem hjl,h2.o⟩
  have hro:r.o=o:=R.o
  have hrpo:r.po=po:=R.po
  -- what the operation looks at is as_ it was
  have hlook:∀ x∈looks ops.toList o,seeE m r.e x=seeE m (eLg m (lis listed) rs 0 e) x:=by
    intro x hxl
    have he:r.e=eLg m (fun j=>decide (j<0+i)) rs 0 e:=by
      rw [← T.env i 0 (Nat.le_of_lt (List.getElem?_eq_some_iff.1 hr).1)]
      simp [recE,hr]
    unfold seeE
    rw [zA,zA]
    split
    · rename_i hxm
      have hxm:x<m.n:=zf.1 hxm
      rw [he]
      refine zcB g3.fit hxm hfits (fun j r' hj hd=>?_) rfl
      obtain⟨y,hy,hyo⟩:=hrec j r' hj
      rw [hyo] at hd
      simp only [Nat.zero_add]
      by_cases hij:i=j
      · subst hij
        rw [hfi]; simp
      · rcases (F.slots hx hy hij x hd).2 hxl with h1 | h1
        · rw [hdeps j h1]
          have:=F.dep hx j h1
          simpa using this
        · have h2:=F.dep hy i h1
          have h3:lis listed j=false:=by
            cases hb:lis listed j with
            | false=>rfl
            | true=>have:=I.closed j y hy hb i h1; rw [hfi] at this; cases this
          rw [h3]
          simp; omega
    · rfl
  have hagree:Agree m r.e (eLg m (lis listed) rs 0 e) (opsOf o.op):=zlp hlook
  have hwant:wants m ops.toList o.guard (eLg m (lis listed) rs 0 e)=some r.w:=by
    rw [← zlE hlook]
    have:=R.want
    rwa [hro] at this
  have hwant:=zdN g3 hwant
  rw [Array.toArray_toList,Array.toArray_toList] at hwant
  have hdst:∀ q,o.dst=some q→q<m.n:=by have:=R.fit; rwa [hro] at this
  -- the frame afterwards
  have hframe:∀ {ι2:Io} {er2:Env},RE ι2 m (putT m (eLg m (lis listed) rs 0 e) o.dst r.t) er2→RE ι2 m (eLg m (lis (listed.setIfInBounds i true)) rs 0 e) er2:=by
    intro ι2 er2 re2
    refine re2.same fun x hxm=>?_
    rw [zd6 g3.fit hxm hdst]
    split
    · rename_i hd
      refine eLg_at g3.fit hxm (i:=i) hfits hr (by rw [hro]; exact hd) (by rw [Nat.zero_add,hset,if_pos rfl]) fun j r' hj hji hd'=>?_
      obtain⟨y,hy,hyo⟩:=hrec j r' hj
      rw [hyo] at hd'
      exact (F.slots hx hy (Ne.symm hji) x hd').1 hd
    · rename_i hd
      refine zcB g3.fit hxm hfits (fun j r' hj hd'=>?_) rfl
      rw [Nat.zero_add,hset,if_neg]
      rintro rfl
      rw [hr] at hj; cases hj
      rw [hro] at hd'
      exact hd hd'
  have hkinds:∀ (j:Nat) (y:Oper × PO),(ops.toList.zip pl)[j]?=some y→y.2.k=0∨y.2.k=1∨y.2.k=2∨y.2.k=3:=by
    intro j y hy
    rw [F.kind hy]; exact zhO _
  have hrm:r∈rs:=List.mem_of_getElem? hr
  have hqhi:q≤po.hi:=by
    rcases zl3 F I.closed _ i _ (Nat.le_refl _) hx hfi with h1 | ⟨y,h1,h2,h3⟩
    · have h1:(ops.toList.zip pl).length≤po.hi:=h1
      omega
    · have h3:lis listed po.hi=false:=h3
      have:¬ po.hi<q:=fun hlt=>by have:=hq2 po.hi y hlt h1 h2; rw [h3] at this; cases this
      omega
  -- a light operation
  have light:po.k≠2→∀ {ι2:Io} {er2:Env} {h2:Heap},Ste ι s h ι2 (recS rs sf q) h2→Sim P ι2 (recS rs sf q) h2→RE ι2 m (putT m (eLg m (lis listed) rs 0 e) o.dst r.t) er2 →
      Fl P rs (lis (listed.setIfInBounds i true)) ι2 (recS rs sf q) h2 q→InvD P m (ops.toList.zip pl) rs e sf ι s h (listed.setIfInBounds i true) er2 h2:=by
    intro hk ι2 er2 h2 k1 k2 k3 k4
    refine⟨by simp [I.size],hcl,ι2,q,hq,fun y hy=>?_,fun j y hj hy hyk=>?_,k1,k2,hframe k3,k4⟩
    · refine⟨(hq1 y hy).1,?_⟩
      rw [hset,if_neg]
      · exact (hq1 y hy).2
      · rintro rfl
        rw [hx] at hy; cases hy
        exact hk (hq1 _ hx).1
    · rw [hset]
      split
      · rfl
      · exact hq2 j y hj hy hyk
  -- the blocks stay
  have keep:r.ob=none→∀ {ι2:Io} {h2:Heap},Ste ι' (recS rs sf q) w.heap ι2 (recS rs sf q) h2→Fl P rs (lis (listed.setIfInBounds i true)) ι2 (recS rs sf q) h2 q:=by
    intro hob ι2 h2 k1 i' r' hr' ho' hh'
    obtain⟨b1,b2,b3,b4⟩:=g4 i' r' hr' ho' hh'
    obtain⟨c1,c2,c3⟩:=ziW g2 k1 b1 b2
    have hne:i'≠i:=by
      rintro rfl
      rw [hr] at hr'; cases hr'
      rw [hob] at ho'; cases ho'
    rw [hset,if_neg hne]
    exact⟨b1,b2,fun hl=>c3 (b3 hl),fun hl=>c2 (b4 hl)⟩
  -- one that acts
  have strong:po.k=2→q=i:=by
    intro hk
    have h1:¬ i<q:=fun hlt=>by have:=hq2 i _ hlt hx hk; rw [hfi] at this; cases this
    have h2:¬ q<i:=fun hlt=>by
      have hql:q<(ops.toList.zip pl).length:=Nat.lt_trans hlt (List.getElem?_eq_some_iff.1 hx).1
      have hy:=List.getElem?_eq_getElem hql
      have:=before F I.closed i _ hx hk hdeps q _ hy hlt (hq1 _ hy).1
      rw [(hq1 _ hy).2] at this; cases this
    omega
  have acted:po.k=2→∀ {ι2:Io} {er2:Env} {h2:Heap},Ste ι s h ι2 (recS rs sf (i+1)) h2→Sim P ι2 (recS rs sf (i+1)) h2→RE ι2 m (putT m (eLg m (lis listed) rs 0 e) o.dst r.t) er2 →
      (∀ i' r',rs[i']?=some r'→r'.ob.isSome=true→i<r'.po.hi→(recS rs sf (i+1)).at r'.b=none∧r'.b<(recS rs sf (i+1)).nx∧(lis listed i'=true→Made P ι2 h2 r')∧(lis listed i'=false→ι2 r'.b=none)) →
      InvD P m (ops.toList.zip pl) rs e sf ι s h (listed.setIfInBounds i true) er2 h2:=by
    intro hk ι2 er2 h2 k1 k2 k3 k4
    have hqi:=strong hk
    have hil:i+1≤(ops.toList.zip pl).length:=(List.getElem?_eq_some_iff.1 hx).1
    obtain⟨q',p1,p2,p3,p4⟩:=zgd (ops.toList.zip pl) _ (i+1) (Nat.le_refl _) hil
    obtain⟨k,rfl⟩:∃ k,q'=i+1+k:=⟨q' - (i+1),by omega⟩
    have hsame:=zgT T k (i+1) p2 (fun j y h1 h2 hy=>p4 j y h1 h2 hy) hkinds
    refine⟨by simp [I.size],hcl,ι2,i+1+k,p2,fun y hy=>⟨p3 y hy,?_⟩,fun j y hj hy hyk=>?_,by rw [hsame]; exact k1,by rw [hsame]; exact k2,hframe k3,?_⟩
    · rw [hset,if_neg (by omega)]
      cases hb:lis listed (i+1+k) with
      | false=>rfl
      | true=>
        have:=before F I.closed _ y hy (p3 y hy) (I.closed _ y hy hb) i _ hx (by omega) hk
        rw [hfi] at this; cases this
    · rw [hset]
      split
      · rfl
      · rename_i hji
        by_cases hj2:j<i
        · exact hq2 j y (by omega) hy hyk
        · exact absurd hyk (p4 j y (by omega) hj hy)
    · intro i' r' hr' ho' hh'
      have hne:i'≠i:=by
        rintro rfl
        rw [hr] at hr'; cases hr'
        have:=R.none (.inr (by rw [hrpo]; omega))
        rw [this] at ho'; cases ho'
      rw [hsame,hset,if_neg hne]
      exact k4 i' r' hr' ho' (by omega)
  unfold opD
  simp only [ho]
  cases hw:r.w with
  | false=>
    rw [hw] at hwant
    simp only [hwant,Bool.false_eq_true,if_false]
    obtain⟨ht,hs1⟩:=R.skip hw
    have hput:(a.put o.dst undef).tmps.toList=putE a.tmps.toList o.dst undef:=by cases o.dst <;> simp [Act.put,putE]
    have hdf:(a.put o.dst undef).defers=d:=by rw [← ha]; cases o.dst <;> rfl
    refine⟨hdf,hw0,?_⟩
    rw [hput]
    have k3:RE ι' m (putT m (eLg m (lis listed) rs 0 e) o.dst r.t) (putE a.tmps.toList o.dst undef):=by
      rw [ht]; exact g3.put hdst zdj
    have hob:=R.none (.inl hw)
    by_cases hk:po.k=2
    · have hqi:=strong hk
      have hsq:recS rs sf (i+1)=recS rs sf q:=by rw [hs1,hqi]; simp [recS,hr]
      exact acted hk (by rw [hsq]; exact g1) (by rw [hsq]; exact g2) k3 (by rw [hsq]; exact fun i' r' hr' ho' hh'=>g4 i' r' hr' ho' (by omega))
    · exact light hk g1 g2 k3 (keep hob (Ste.refl ..))
  | true=>
    rw [hw] at hwant
    simp only [hwant,if_true]
    have fin:∀ {s1 sN:S},(∀ {ι2:Io} {er2:Env} {h2:Heap},Ste ι' s1 w.heap ι2 sN h2→Sim P ι2 sN h2→RE ι2 m (putT m (eLg m (lis listed) rs 0 e) o.dst r.t) er2→InvD P m (ops.toList.zip pl) rs e sf ι s h (listed.setIfInBounds i true) er2 h2) →
        ze P o.op o.type a.tmps.toList w.heap (Post P ι' s1 w.heap r.t sN)→opSw P o a w (fun v w'=>(a.put o.dst v).defers=d∧Eng.Rest w0 w'∧InvD P m (ops.toList.zip pl) rs e sf ι s h (listed.setIfInBounds i true) (a.put o.dst v).tmps.toList w'.heap):=by
      intro s1 sN hinv hsem
      refine zeN (zL ?_ hsem)
      rintro v h' ⟨ι2,k1,k2,k3⟩ w' hw' hr'
      subst hw'
      have hput:(a.put o.dst v).tmps.toList=putE a.tmps.toList o.dst v:=by cases o.dst <;> simp [Act.put,putE]
      have hdf:(a.put o.dst v).defers=d:=by rw [← ha]; cases o.dst <;> rfl
      refine⟨hdf,hw0.trans hr',?_⟩
      rw [hput]
      exact hinv k1 k2 ((g3.mono k1.sub).put hdst k3)
    have hnq:(recS rs sf q).nx≤1000000:=by
      unfold recS
      split
      · rename_i r' hr'; exact hnx r' (List.mem_of_getElem? hr')
      · exact hnf
    rcases zhO o.op with hk | hk | hk | hk
    · have hpk:po.k=0:=by have:=F.kind hx; exact this.trans hk
      have hob:=R.none (.inr (by rw [hrpo]; omega))
      have hrun:=R.run hw (by rw [hrpo]; omega)
      rw [hro,hrpo] at hrun
      rw [hpk] at hrun
      unfold zd4 at hrun
      simp only at hrun
      split at hrun
      · rename_i t' s1 hst
        split at hrun
        · rename_i hc
          simp only [Bool.and_eq_true] at hc
          simp only [Res.ok.injEq,Prod.mk.injEq] at hrun
          rw [zcX hagree] at hst
          refine fin (s1:=recS rs sf q) (sN:=recS rs sf q) (fun k1 k2 k3=>light (by omega) (g1.trans H0.fresh k1) k2 k3 (keep hob k1)) ?_
          have:=zno (ty:=o.type) ok g3 g2 hnq hst (Nat.eq_of_beq_eq_true hc.1) (zf.1 hc.2)
          rw [hrun.1] at this
          exact this
        · cases hrun
      · cases hrun
    · have hpk:po.k=1:=by have:=F.kind hx; exact this.trans hk
      have hob:=R.none (.inr (by rw [hrpo]; omega))
      have hrun:=R.run hw (by rw [hrpo]; omega)
      rw [hro,hrpo] at hrun
      have hread:=hrd r hrm
      unfold zfT at hread
      rw [hw,hrpo,hpk] at hread
      have hb1:(true&&Nat.beq 1 1)=true:=rfl
      rw [hb1] at hread
      simp only [Bool.and_eq_true] at hread
      have hlo:po.lo≤q:=by
        rcases zmd F I.closed i _ hx hdeps with h1 | ⟨c,y,h1,h2,h3,h4⟩
        · have h1:po.lo=0:=h1
          omega
        · have h1:po.lo=c+1:=h1
          have:¬ q≤c:=fun hqc=>by
            have hql:q<(ops.toList.zip pl).length:=Nat.lt_of_le_of_lt hqc (List.getElem?_eq_some_iff.1 h2).1
            have hy:=List.getElem?_eq_getElem hql
            by_cases hqc':q=c
            · subst hqc'
              have:=(hq1 _ h2).2
              rw [h4] at this; cases this
            · have:=before F I.closed c y h2 h3 (I.closed c y h2 h4) q _ hy (by omega) (hq1 _ hy).1
              rw [(hq1 _ hy).2] at this; cases this
          omega
      have hhi:q≤po.hi:=by
        rcases zl3 F I.closed _ i _ (Nat.le_refl _) hx hfi with h1 | ⟨y,h1,h2,h3⟩
        · have h1:(ops.toList.zip pl).length≤po.hi:=h1
          omega
        · have h3:lis listed po.hi=false:=h3
          have:¬ po.hi<q:=fun hlt=>by have:=hq2 po.hi y hlt h1 h2; rw [h3] at this; cases this
          omega
      have hrok:zg9 p m r (recS rs sf q)=true:=by
        by_cases hqn:q=rs.length
        · have h1:=hread.2
          rw [← hqn,zf.2 hlo,zf.2 hhi] at h1
          have h2:recS rs sf q=sf:=by rw [hqn]; simp [recS]
          rw [h2]; exact h1
        · have hql:q<rs.length:=by have:=T.len; omega
          have hql':q<(ops.toList.zip pl).length:=by have:=T.len; omega
          have h1:=zcG hread.1 q _ (List.getElem?_eq_getElem hql)
          obtain⟨rq,u1,u2⟩:=T.get q _ (List.getElem?_eq_getElem hql')
          rw [List.getElem?_eq_getElem hql] at u1
          have u1:=Option.some.inj u1
          have hkq:rs[q].po.k=2:=by
            rw [u1,u2.po]
            exact (hq1 _ (List.getElem?_eq_getElem hql')).1
          simp only [Nat.zero_add] at h1
          rw [zd7.2 hkq,zf.2 hlo,zf.2 hhi] at h1
          have h2:recS rs sf q=rs[q].s:=by simp [recS,hql]
          rw [h2]; exact h1
      unfold zg9 at hrok
      split at hrok
      · rename_i t' s1 hst
        have:=ziS hrok
        subst this
        rw [hro,zcX hagree] at hst
        exact fin (s1:=recS rs sf q) (sN:=recS rs sf q) (fun k1 k2 k3=>light (by omega) (g1.trans H0.fresh k1) k2 k3 (keep hob k1)) (zns ok g3 g2 hk hst)
      · cases hrok
    · have hpk:po.k=2:=by have:=F.kind hx; exact this.trans hk
      have hob:=R.none (.inr (by rw [hrpo]; omega))
      have hrun:=R.run hw (by rw [hrpo]; omega)
      rw [hro,hrpo] at hrun
      have hqi:=strong hpk
      rw [hpk] at hrun
      unfold zd4 at hrun
      simp only at hrun
      split at hrun
      · rw [zmB hagree] at hrun
        have hs:r.s=recS rs sf q:=by rw [hqi]; simp [recS,hr]
        rw [hs] at hrun
        have hal:∀ r'∈(z8 (rs.take i)).reverse++[],r'.ob.isSome=true→r'.po.hi=i→Made P ι' w.heap r':=by
          intro r' hr' ho' hh'
          obtain⟨j,hj,hjr,_⟩:=zfy hr'
          have hjl:j<(ops.toList.zip pl).length:=by rw [← T.len]; exact (List.getElem?_eq_some_iff.1 hjr).1
          have hjx:=List.getElem?_eq_getElem hjl
          obtain⟨r'',u1,u2⟩:=T.get j _ hjx
          rw [hjr] at u1; cases u1
          have hlj:=zoF F I.closed hx hdeps _ j _ (Nat.le_refl _) hjx (by rw [← u2.po]; exact hh')
          exact (g4 j r' hjr ho' (by omega)).2.2.1 hlj
        rw [Nat.zero_add] at hrun
        have hsim:=zd2 _ i g2 hal
        have hbs:∀ r'∈(z8 (rs.take i)).reverse++[],r'.ob.isSome=true→s.nx≤r'.b:=by
          intro r' hr' ho'
          obtain⟨j,hj,hjr,_⟩:=zfy hr'
          exact (T.blt hjr ho').1
        have hste:=zlW H0 g1 (al:=(z8 (rs.take i)).reverse++[]) (q:=i) hbs
        refine fin (s1:=act ((z8 (rs.take i)).reverse++[]) i (recS rs sf q)) (sN:=recS rs sf (i+1)) (fun k1 k2 k3=>acted hpk (hste.trans H0.fresh k1) k2 k3 ?_) (zg5 ok hcf hrun g3 hsim)
        intro i' r' hr' ho' hh'
        obtain⟨b1,b2,b3,b4⟩:=g4 i' r' hr' ho' (by omega)
        have hat:(act ((z8 (rs.take i)).reverse++[]) i (recS rs sf q)).at r'.b=none:=by
          rw [zjF]
          · exact b1
          · intro r2 hr2 ho2 hh2
            obtain⟨j,hj,hjr,_⟩:=zfy hr2
            refine T.bne hjr hr' ho2 ho' ?_
            rintro rfl
            rw [hjr] at hr'; cases hr'
            omega
        have hnx1:=(zfp ((z8 (rs.take i)).reverse++[]) i (recS rs sf q)).1
        obtain⟨c1,c2,c3⟩:=ziW hsim k1 (r:=r') hat (by rw [hnx1]; exact b2)
        exact⟨c1,by have:=k1.nx; omega,fun hl=>c3 (b3 hl),fun hl=>c2 (b4 hl)⟩
      · cases hrun
    · have hpk:po.k=3:=by have:=F.kind hx; exact this.trans hk
      obtain⟨ob,hob,hall,hs1⟩:=R.alc hw (by rw [hrpo]; exact hpk)
      have hosome:r.ob.isSome=true:=by rw [hob]; rfl
      obtain⟨b1,b2,_,b4⟩:=g4 i r hr hosome (by rw [hrpo]; exact hqhi)
      have hnone:=b4 hfi
      have hall':zcq p m o (eLg m (lis listed) rs 0 e) r.b=some (r.t,ob):=by
        rw [hro] at hall
        unfold zcq at hall ⊢
        rw [← zcX hagree]
        exact hall
      have hsem:=(zhP (h:=w.heap) ok hnone g3 hk hall').1
      refine zeN (zL ?_ hsem)
      rintro v h' ⟨obr,rfl,k1,k2⟩ w' hw' hr'
      have hput:(a.put o.dst v).tmps.toList=putE a.tmps.toList o.dst v:=by cases o.dst <;> simp [Act.put,putE]
      have hdf:(a.put o.dst v).defers=d:=by rw [← ha]; cases o.dst <;> rfl
      refine⟨hdf,hw0.trans hr',?_⟩
      rw [hput,hw']
      have hsub:=Io.put_sub (x:=⟨w.heap.size,0,#[],0,0⟩) hnone
      refine light (by omega) (g1.add hnone (T.blt hr hosome).1) (g2.add hnone b2 b1) ((g3.mono hsub).put hdst k2) ?_
      intro i' r' hr2 ho' hh'
      rw [hset]
      by_cases hne:i'=i
      · subst hne
        rw [hr] at hr2; cases hr2
        refine⟨b1,b2,fun _=>?_,fun hl=>by simp at hl⟩
        refine⟨ob,⟨w.heap.size,0,#[],0,0⟩,obr,hob,Io.put_self,by simp,k1,fun c y hc hy=>?_⟩
        unfold Io.put at hc
        split at hc
        · assumption
        · have h1:=(g2.fresh c y hc).2
          have hy:y.r=w.heap.size:=hy
          omega
      · rw [if_neg hne]
        obtain⟨d1,d2,d3,d4⟩:=g4 i' r' hr2 ho' hh'
        have hbne:=T.bne hr2 hr ho' hosome hne
        refine⟨d1,d2,fun hl=>znW g2.fresh hnone (d3 hl),fun hl=>?_⟩
        unfold Io.put
        rw [if_neg hbne]
        exact d4 hl
end main
end draw2
end Go.Run
namespace Go.Run
open Go Go.Eng
section draw3
variable {P:Program} {p:Pr} {ι:Io} {s s':S} {h:Heap} {m:Fm} {e e':E} {er:Env} {ty:TypeId} {t:T} {K:Value→Heap→Prop} {cf:zan}
variable {ops:Array Oper} {pl:List PO} {rs:List Rec} {ef:E} {sf:S}
theorem zm6 {all:List Oper}(hlen:pl.length=ops.toList.length)(F:zfZ all (ops.toList.zip pl)){listed:Array Bool}(hs:listed.size=(ops.toList.zip pl).length)(h0:Region.ready .any ops listed=[]):∀ i,i<listed.size→lis listed i=true:=by
  intro i
  induction i using Nat.strongRecOn with
  | _ i ih=>
    intro hi
    cases hb:lis listed i with
    | true=>rfl
    | false=>
      have hil:i<(ops.toList.zip pl).length:=by omega
      have hx:=List.getElem?_eq_getElem hil
      have ho:=zip_ops hx
      have:i∈Region.ready .any ops listed:=by
        refine mem_ready.2 ⟨by rw [zdu hi]; exact hb,_,(by rw [← Array.getElem?_toList]; exact ho),fun e' he hbd=>?_⟩
        have hd:e'.on∈deps (ops.toList.zip pl)[i].1:=zkP.2 ⟨e',he,hbd,rfl⟩
        have hlt:=F.dep hx _ hd
        exact ih _ hlt (by omega)
      rw [h0] at this; cases this
noncomputable def unl (listed:Array Bool):List Nat:=(List.range listed.size).filter fun j=>!lis listed j
theorem unl_set {listed:Array Bool}{i:Nat}(hi:i<listed.size)(hf:lis listed i=false):(unl (listed.setIfInBounds i true)).length<(unl listed).length:=by
  unfold unl
  rw [Array.size_setIfInBounds]
  refine filter_lt _ _ ?_ i (by simp [hf]) ?_ _ (by simp [hi])
  · intro x hx
    rw [zia hi] at hx
    split at hx
    · cases hx
    · exact hx
  · rw [zia hi,if_pos rfl]; rfl
theorem draw_any (ok:Ok P p)(hcf:zdG P cf)(hlen:pl.length=ops.toList.length)(F:zfZ ops.toList (ops.toList.zip pl)){s0:S}(T:Tr p m cf ops.toList 0 [] s.nx (ops.toList.zip pl) e s0 rs ef sf)
    (hrd:∀ r∈rs,zfT p m rs rs.length sf r=true) (hnx:∀ r∈rs,r.s.nx≤1000000) (hnf:sf.nx≤1000000) (H0:Sim P ι s h) (hfit:∀ r∈rs,∀ q,r.o.dst=some q→q<m.n) {d:List Deferred} {w0:World} {l:Option Nat} {Q:Exit→Act→World→Prop}
    (hQ:∀ a w',a.defers=d→Eng.Rest w0 w'→(∃ ι',Ste ι s h ι' (act rs rs.length sf) w'.heap∧Sim P ι' (act rs rs.length sf) w'.heap∧RE ι' m ef a.tmps.toList)→Q .normal a w') :
    ∀ (fuel:Nat) (listed:Array Bool) (a:Act) (w:World),(unl listed).length≤fuel→a.defers=d→Eng.Rest w0 w→InvD P m (ops.toList.zip pl) rs e sf ι s h listed a.tmps.toList w.heap →
      wpAnyIn (fen l) 0 P .any ops Q fuel listed a w:=by
  have done:∀ (listed:Array Bool) (a:Act) (w:World),a.defers=d→Eng.Rest w0 w→InvD P m (ops.toList.zip pl) rs e sf ι s h listed a.tmps.toList w.heap→(∀ i,i<listed.size→lis listed i=true)→Q .normal a w:=by
    intro listed a w ha hw I hall
    obtain⟨ι',q,hq,hq1,hq2,g1,g2,g3,g4⟩:=I.st
    have hqn:q=(ops.toList.zip pl).length:=by
      rcases Nat.lt_or_ge q (ops.toList.zip pl).length with hlt | hge
      · have:=(hq1 _ (List.getElem?_eq_getElem hlt)).2
        rw [hall q (by rw [I.size]; exact hlt)] at this; cases this
      · omega
    have hsf:recS rs sf q=sf:=by
      rw [hqn,← T.len]; simp [recS]
    rw [hsf] at g1 g2 g4
    have hqr:q=rs.length:=by rw [hqn,T.len]
    have hmade:∀ r∈rs,r.ob.isSome=true→r.po.hi=rs.length→Made P ι' w.heap r:=by
      intro r hr ho hh
      obtain⟨j,hj⟩:=List.getElem?_of_mem hr
      have hjl:j<listed.size:=by rw [I.size,← T.len]; exact (List.getElem?_eq_some_iff.1 hj).1
      exact (g4 j r hj ho (by omega)).2.2.1 (hall j hjl)
    have hbs:∀ r∈rs,r.ob.isSome=true→s.nx≤r.b:=by
      intro r hr ho
      obtain⟨j,hj⟩:=List.getElem?_of_mem hr
      exact (T.blt hj ho).1
    refine hQ a w ha hw ⟨ι',zlW H0 g1 hbs,zd2 _ _ g2 hmade,g3.same fun x hx=>?_⟩
    have h1:=T.env rs.length 0 (Nat.le_refl _)
    have h2:recE rs ef rs.length=ef:=by simp [recE]
    rw [← h2,h1]
    refine zcB g3.fit hx hfit (fun j r hj _=>?_) rfl
    have hjl:=(List.getElem?_eq_some_iff.1 hj).1
    have:=T.len
    simp only [Nat.zero_add]
    rw [hall j (by rw [I.size]; omega)]
    simpa using hjl
  intro fuel
  induction fuel with
  | zero=>
    intro listed a w hu ha hw I
    have hall:∀ i,i<listed.size→lis listed i=true:=by
      intro i hi
      cases hb:lis listed i with
      | true=>rfl
      | false=>
        have h1:i∈unl listed:=by unfold unl; simp [hi,hb]
        have h2:unl listed=[]:=List.eq_nil_of_length_eq_zero (by omega)
        rw [h2] at h1; cases h1
    refine⟨?_,done listed a w ha hw I hall⟩
    cases hr:Region.ready .any ops listed with
    | nil=>rfl
    | cons i rest=>
      have hi:i∈Region.ready .any ops listed:=by rw [hr]; simp
      obtain⟨h1,o,h2,_⟩:=mem_ready.1 hi
      have hil:i<listed.size:=by
        rw [I.size]
        obtain⟨po,hx⟩:=zic hlen (show ops.toList[i]?=some o by simpa using h2)
        exact (List.getElem?_eq_some_iff.1 hx).1
      rw [zdu hil,hall i hil] at h1
      cases h1
  | succ fuel ih=>
    intro listed a w hu ha hw I
    refine⟨fun h0=>done listed a w ha hw I (zm6 hlen F I.size h0),fun i hi=>?_⟩
    have hil:i<listed.size:=by
      obtain⟨_,o,h2,_⟩:=mem_ready.1 hi
      rw [I.size]
      obtain⟨po,hx⟩:=zic hlen (show ops.toList[i]?=some o by simpa using h2)
      exact (List.getElem?_eq_some_iff.1 hx).1
    have hf:lis listed i=false:=by rw [← zdu hil]; exact (mem_ready.1 hi).1
    have hlt:=unl_set hil hf
    exact wpOpIn_mono (fun a' w' h'=>ih _ a' w' (by omega) h'.1 h'.2.1 h'.2.2) (zeQ (znJ ok hcf hlen F T hrd hnx hnf H0 ha hw I hi))
noncomputable def exR:Ex→Exit | .normal=>.normal | .exit i=>.exit i | .goto i=>.goto i | .ret=>.ret
noncomputable def DL (ι:Io):List Nat→List Deferred→Prop
  | [],l=>l=[]
  | b::ds,l=>∃ y r,ι b=some y∧l={ target:=.collected y.r,args:=#[] }::r∧DL ι ds r
theorem DL.mono {ι ι':Io}(hs:Sub ι ι'):∀ {d:List Nat} {l:List Deferred},DL ι d l→DL ι' d l
  | [],l,h=>h
  | b::ds,l,⟨y,r,h1,h2,h3⟩=>⟨y,r,hs _ _ h1,h2,DL.mono hs h3⟩
noncomputable def CP (P:Program)(ι:Io)(s:S)(h:Heap)(m:Fm)(o:Out):Cont:=fun x er dr h'=>x=exR o.x∧∃ ι',Ste ι s h ι' o.s h'∧Sim P ι' o.s h'∧RE ι' m o.e er∧DL ι' o.d dr
noncomputable def RO (ι:Io):Option Nat→Option Nat→Prop
  | none,l=>l=none
  | some b,l=>∃ y,ι b=some y∧l=some y.r
theorem RO.mono {ι ι':Io}(hs:Sub ι ι'):∀ {b:Option Nat} {l:Option Nat},RO ι b l→RO ι' b l
  | none,l,h=>h
  | some b,l,⟨y,h1,h2⟩=>⟨y,hs _ _ h1,h2⟩
noncomputable def Snd (P:Program)(self:zu):Prop:=
  ∀ m ro c e d s o,self m ro c e d s=.ok o→∀ ι er dr h l,RE ι m e er→Sim P ι s h→DL ι d dr→RO ι ro l→WP l P c (CP P ι s h m o) er dr h
theorem zQ {l:Option Nat}{c:Code}{k:Cont}{er:Env}{d:List Deferred}{h:Heap}(H:∀ w:World,w.heap=h→c.wpIn (fen l) 0 P (fun x a w'=>k x a.tmps.toList a.defers w'.heap∧Eng.Rest w w') ⟨er.toArray,d⟩ w):WP l P c k er d h:=by
  unfold WP; exact H
theorem zad {l:Option Nat}{c:Code}{k:Cont}{er:Env}{d:List Deferred}{h:Heap}(H:WP l P c k er d h):∀ w:World,w.heap=h→c.wpIn (fen l) 0 P (fun x a w'=>k x a.tmps.toList a.defers w'.heap∧Eng.Rest w w') ⟨er.toArray,d⟩ w:=by
  unfold WP at H; exact H
theorem zjJ (ok:Ok P p){self:zu}(hcf:zdG P (zc2 p self)){id:Nat}{ops:Array Oper}{d:List Nat}{o:Out}(hd:zgq p self m ops e d s=.ok o){dr:List Deferred}{l:Option Nat}(re:RE ι m e er)(H:Sim P ι s h)(D:DL ι d dr) :
    WP l P (.region id ops false) (CP P ι s h m o) er dr h:=by
  unfold zgq at hd
  split at hd
  · rename_i e1 s1 hr
    cases hd
    refine zQ fun w hw=>wpIn_region_list ?_
    have:=zdA (l:=l) (d:=dr) (w:=w) (w0:=w) (Q:=fun x a w'=>CP P ι s h m ⟨.normal,e1,d,s1⟩ x a.tmps.toList a.defers w'.heap∧Eng.Rest w w') ok hcf ops.toList e s hr re H hw (Eng.Rest.refl w) fun a w' ha hr' ⟨ι',q1,q2,q3⟩=>
      ⟨⟨rfl,ι',q1,q2,q3,by rw [ha]; exact D.mono q1.sub⟩,hr'⟩
    simpa using this
  · cases hd
theorem zmx (ok:Ok P p){self:zu}(hcf:zdG P (zc2 p self)){id:Nat}{ops:Array Oper}{d:List Nat}{o:Out}(hd:zjo p self m ops e d s=.ok o){dr:List Deferred}{l:Option Nat}(re:RE ι m e er)(H:Sim P ι s h)(D:DL ι d dr) :
    WP l P (.region id ops true) (CP P ι s h m o) er dr h:=by
  unfold zjo at hd
  split at hd
  · rename_i hp
    simp only [Bool.and_eq_true] at hp
    have hlen:=Nat.eq_of_beq_eq_true hp.2
    have F:=zjI hp.1
    split at hd
    · rename_i e1 s1 hr
      cases hd
      obtain⟨rs,ef,sf,T,hk⟩:=zdE hr
      split at hk
      · rename_i hc
        rw [zlU] at hk
        simp only [Res.ok.injEq,Prod.mk.injEq] at hk
        obtain⟨rfl,rfl⟩:=hk
        simp only [Bool.and_eq_true] at hc
        have hrd:=fun r hr=>List.all_eq_true.1 hc.1.1 r hr
        have hnx:=fun r hr=>zf.1 (List.all_eq_true.1 hc.1.2 r hr)
        have hnf:=zf.1 hc.2
        have hfits:∀ r∈rs,∀ q,r.o.dst=some q→q<m.n:=by
          intro r hr q hq
          obtain⟨j,hj⟩:=List.getElem?_of_mem hr
          have hjl:j<(ops.toList.zip (zb6 ops.toList)).length:=by rw [← T.len]; exact (List.getElem?_eq_some_iff.1 hj).1
          obtain⟨r',h1,h2⟩:=T.get j _ (List.getElem?_eq_getElem hjl)
          rw [hj] at h1; cases h1
          exact h2.fit q hq
        refine zQ fun w hw=>wpIn_region_any ok.mixed ?_
        have hsz:(ops.toList.zip (zb6 ops.toList)).length=ops.size:=by rw [List.length_zip,hlen]; simp
        have hfalse:∀ j,lis (Array.replicate ops.size false) j=false:=by
          intro j
          unfold lis
          simp [Array.getD_eq_getD_getElem?,Array.getElem?_replicate]
          split <;> rfl
        obtain⟨q,p1,p2,p3,p4⟩:=zgd (ops.toList.zip (zb6 ops.toList)) _ 0 (Nat.le_refl _) (Nat.zero_le _)
        have hkinds:∀ (j:Nat) (y:Oper × PO),(ops.toList.zip (zb6 ops.toList))[j]?=some y→y.2.k=0∨y.2.k=1∨y.2.k=2∨y.2.k=3:=by
          intro j y hy
          rw [F.kind hy]; exact zhO _
        have hs0:recS rs sf q=⟨s.V,s.nx+zdg (ops.toList.zip (zb6 ops.toList)),s.low⟩:=by
          have:=zgT T q 0 (by omega) (fun j y h1 h2 hy=>p4 j y h1 (by omega) hy) hkinds
          rw [Nat.zero_add] at this
          rw [this,T.zero]
        refine draw_any (w0:=w) ok hcf hlen F T hrd hnx hnf H hfits (d:=dr) (Q:=fun x a w'=>CP P ι s h m ⟨.normal,ef,d,act rs rs.length sf⟩ x a.tmps.toList a.defers w'.heap∧Eng.Rest w w') (fun a w' ha hr' ⟨ι',q1,q2,q3⟩=>⟨⟨rfl,ι',q1,q2,q3,by rw [ha]; exact D.mono q1.sub⟩,hr'⟩)
          ops.size (Array.replicate ops.size false) ⟨er.toArray,dr⟩ { w with drawn:=w.drawn+1 } ?_ rfl ⟨rfl,rfl,rfl⟩ ⟨by simp [hsz],fun i x _ hf=>(by rw [hfalse] at hf; cases hf),ι,q,p2,fun y hy=>⟨p3 y hy,hfalse q⟩,fun j y hj hy hk=>absurd hk (p4 j y (Nat.zero_le _) hj hy),?_,?_,?_,?_⟩
        · unfold unl
          refine Nat.le_trans (List.length_filter_le _ _) ?_
          simp
        · rw [hs0]; subst hw
          exact⟨fun _ _ h=>h,Nat.le_add_right _ _,Nat.le_refl _,Nat.le_refl _,fun _ _ h=>h,fun _ _ h=>.inl h,fun _ _ _ h=>h,fun _ _ _=>rfl⟩
        · rw [hs0]; subst hw
          exact⟨fun b x hx=>⟨Nat.lt_of_lt_of_le (H.fresh b x hx).1 (Nat.le_add_right _ _),(H.fresh b x hx).2⟩,H.inj,H.obj⟩
        · rw [zeB _ _ _ _ (fun j _=>hfalse j)]; simpa using re
        · rw [hs0]
          intro i r hr ho _
          obtain⟨b1,b2⟩:=T.blt hr ho
          have hn:ι r.b=none:=by
            cases hx:ι r.b with
            | none=>rfl
            | some x=>have:=(H.fresh _ _ hx).1; omega
          refine⟨?_,b2,fun hl=>(by rw [hfalse] at hl; cases hl),fun _=>hn⟩
          show s.at r.b=none
          cases ha:s.at r.b with
          | none=>rfl
          | some ob=>
            obtain⟨x,_,hx,_⟩:=H.obj _ _ ha
            rw [hn] at hx; cases hx
      · cases hk
    · cases hd
  · cases hd
end draw3
end Go.Run
namespace Go.Run
open Go Go.Eng
section steps
variable {P:Program} {p:Pr} {ι:Io} {s s':S} {h:Heap} {m:Fm} {e e':E} {er:Env} {self:zu} {ro:Option Nat} {d:List Nat} {dr:List Deferred} {l:Option Nat} {o:Out}
theorem CP.trans {ι1:Io}{s1:S}{h1:Heap}(H:Sim P ι s h)(q1:Ste ι s h ι1 s1 h1){x:Exit}{er':Env}{dr':List Deferred}{h2:Heap}(c:CP P ι1 s1 h1 m o x er' dr' h2):CP P ι s h m o x er' dr' h2:=by
  obtain⟨hx,ι',a1,a2,a3,a4⟩:=c
  exact⟨hx,ι',q1.trans H.fresh a1,a2,a3,a4⟩
theorem c_skip (re:RE ι m e er)(H:Sim P ι s h)(D:DL ι d dr):WP l P .skip (CP P ι s h m ⟨.normal,e,d,s⟩) er dr h:=
  zQ fun w hw=>wpIn_skip ⟨⟨rfl,ι,by subst hw; exact Ste.refl ..,by subst hw; exact H,by simpa using re,D⟩,Eng.Rest.refl w⟩
theorem c_label {i:Nat}(re:RE ι m e er)(H:Sim P ι s h)(D:DL ι d dr):WP l P (.label i) (CP P ι s h m ⟨.normal,e,d,s⟩) er dr h:=
  zQ fun w hw=>wpIn_label ⟨⟨rfl,ι,by subst hw; exact Ste.refl ..,by subst hw; exact H,by simpa using re,D⟩,Eng.Rest.refl w⟩
theorem c_ret (re:RE ι m e er)(H:Sim P ι s h)(D:DL ι d dr):WP l P .ret (CP P ι s h m ⟨.ret,e,d,s⟩) er dr h:=
  zQ fun w hw=>wpIn_ret ⟨⟨rfl,ι,by subst hw; exact Ste.refl ..,by subst hw; exact H,by simpa using re,D⟩,Eng.Rest.refl w⟩
theorem c_exit {i:Nat}(re:RE ι m e er)(H:Sim P ι s h)(D:DL ι d dr):WP l P (.exit i) (CP P ι s h m ⟨.exit i,e,d,s⟩) er dr h:=
  zQ fun w hw=>wpIn_exit ⟨⟨rfl,ι,by subst hw; exact Ste.refl ..,by subst hw; exact H,by simpa using re,D⟩,Eng.Rest.refl w⟩
theorem c_goto {i:Nat}(re:RE ι m e er)(H:Sim P ι s h)(D:DL ι d dr):WP l P (.goto i) (CP P ι s h m ⟨.goto i,e,d,s⟩) er dr h:=
  zQ fun w hw=>wpIn_goto ⟨⟨rfl,ι,by subst hw; exact Ste.refl ..,by subst hw; exact H,by simpa using re,D⟩,Eng.Rest.refl w⟩
theorem c_seq (sd:Snd P self){a b:Code}(hd:doSeq self m ro a b e d s=.ok o)(re:RE ι m e er)(H:Sim P ι s h)(D:DL ι d dr)(R:RO ι ro l):WP l P (.seq a b) (CP P ι s h m o) er dr h:=by
  unfold doSeq at hd
  split at hd
  · rename_i e1 d1 s1 h1
    have ha:=sd _ _ _ _ _ _ _ h1 ι er dr h l re H D R
    refine zQ fun w hw=>wpIn_seq (wpIn_mono (zad ha w hw) ?_)
    rintro x a' w' ⟨⟨hx,ι1,q1,q2,q3,q4⟩,hr⟩
    obtain rfl:x=.normal:=hx
    have hb:=sd _ _ _ _ _ _ _ hd ι1 _ _ _ l q3 q2 q4 (R.mono q1.sub)
    have:=zad hb w' rfl
    rw [zaN] at this
    refine wpIn_mono this ?_
    rintro x a'' w'' ⟨c,hr'⟩
    exact⟨c.trans H q1,hr.trans hr'⟩
  · rename_i hne
    have ha:=sd _ _ _ _ _ _ _ hd ι er dr h l re H D R
    refine zQ fun w hw=>wpIn_seq (wpIn_mono (zad ha w hw) ?_)
    rintro x a' w' ⟨c,hr⟩
    have hox:o.x≠.normal:=by
      intro hox
      obtain⟨x',e1,d1,s1⟩:=o
      have hox:x'=.normal:=hox
      subst hox
      exact hne _ _ _ hd
    cases x with
    | normal=>
      have:=c.1
      cases ho:o.x <;> rw [ho] at this hox <;> first | exact absurd rfl hox | cases this
    | _=>exact⟨c,hr⟩
theorem c_cond (sd:Snd P self){x:Operand}{a b:Code}(hd:zkA self m ro x a b e d s=.ok o)(re:RE ι m e er)(H:Sim P ι s h)(D:DL ι d dr)(R:RO ι ro l):WP l P (.cond x a b) (CP P ι s h m o) er dr h:=by
  unfold zkA at hd
  split at hd
  · rename_i hx
    have hx:=zo re hx
    simp only [VR] at hx
    exact zQ fun w hw=>wpIn_cond_true (by rw [zaw]; exact hx) (zad (sd _ _ _ _ _ _ _ hd ι er dr h l re H D R) w hw)
  · rename_i hx
    have hx:=zo re hx
    simp only [VR] at hx
    exact zQ fun w hw=>wpIn_cond_false (by rw [zaw]; exact hx) (zad (sd _ _ _ _ _ _ _ hd ι er dr h l re H D R) w hw)
  · cases hd
theorem c_block (sd:Snd P self){i:Nat}{b:Code}(hd:zhZ self m ro i b e d s=.ok o)(re:RE ι m e er)(H:Sim P ι s h)(D:DL ι d dr)(R:RO ι ro l):WP l P (.block i b) (CP P ι s h m o) er dr h:=by
  unfold zhZ at hd
  split at hd
  · rename_i j e1 d1 s1 h1
    have ha:=sd _ _ _ _ _ _ _ h1 ι er dr h l re H D R
    refine zQ fun w hw=>wpIn_block (wpIn_mono (zad ha w hw) ?_)
    rintro x a' w' ⟨⟨hx,c⟩,hr⟩
    obtain rfl:x=.exit j:=hx
    simp only [Exit.inBlock]
    split at hd
    · rename_i hj
      cases hd
      rw [if_pos (Nat.eq_of_beq_eq_true hj)]
      exact⟨⟨rfl,c⟩,hr⟩
    · rename_i hj
      cases hd
      rw [if_neg]
      · exact⟨⟨rfl,c⟩,hr⟩
      · rintro rfl
        have:Nat.beq j j=true:=Nat.beq_refl j
        rw [this] at hj; cases hj
  · rename_i hne
    have ha:=sd _ _ _ _ _ _ _ hd ι er dr h l re H D R
    refine zQ fun w hw=>wpIn_block (wpIn_mono (zad ha w hw) ?_)
    rintro x a' w' ⟨c,hr⟩
    cases x with
    | exit j=>
      exfalso
      have hx:=c.1
      obtain⟨x',e1,d1,s1⟩:=o
      cases x' with
      | exit j'=>exact hne _ _ _ _ hd
      | _=>cases hx
    | _=>exact⟨c,hr⟩
theorem zfh (sd:Snd P self){b:Code}:∀ (n:Nat) {ι:Io} {s:S} {h:Heap} {e:E} {er:Env} {d:List Nat} {dr:List Deferred},loopN self m ro b n e d s=.ok o→RE ι m e er→Sim P ι s h→DL ι d dr→RO ι ro l→∀ w:World,w.heap=h →
    Code.roundsIn (fen l) 0 P b (fun x a w'=>CP P ι s h m o x a.tmps.toList a.defers w'.heap∧Eng.Rest w w') n ⟨er.toArray,dr⟩ w
  | 0,ι,s,h,e,er,d,dr,hd,re,H,D,R,w,hw=>by
    have hd : (Res.bad "rounds" : Res Out) = .ok o := hd
    cases hd
  | n+1,ι,s,h,e,er,d,dr,hd,re,H,D,R,w,hw=>by
    have hd:(match self m ro b e d s with | .ok ⟨.normal,e,d,s⟩=>loopN self m ro b n e d s | r=>r)=.ok o:=hd
    rw [roundsIn_succ]
    split at hd
    · rename_i e1 d1 s1 h1
      refine wpIn_mono (zad (sd _ _ _ _ _ _ _ h1 ι er dr h l re H D R) w hw) ?_
      rintro x a' w' ⟨⟨hx,ι1,q1,q2,q3,q4⟩,hr⟩
      obtain rfl:x=.normal:=hx
      have:=zfh sd n hd q3 q2 q4 (R.mono q1.sub) w' rfl
      rw [zaN] at this
      have key:∀ (k:Nat) (a:Act) (w'':World),Code.roundsIn (fen l) 0 P b (fun x a w''=>CP P ι1 s1 w'.heap m o x a.tmps.toList a.defers w''.heap∧Eng.Rest w' w'') k a w''→Code.roundsIn (fen l) 0 P b (fun x a w''=>CP P ι s h m o x a.tmps.toList a.defers w''.heap∧Eng.Rest w w'') k a w'':=by
        intro k
        induction k with
        | zero=>intro a w'' hh; exact hh.elim
        | succ k ih=>
          intro a w'' hh
          rw [roundsIn_succ] at hh ⊢
          refine wpIn_mono hh ?_
          intro x a w3 hq
          cases x with
          | normal=>exact ih _ _ hq
          | _=>exact⟨hq.1.trans H q1,hr.trans hq.2⟩
      exact key n a' w' this
    · rename_i hne
      refine wpIn_mono (zad (sd _ _ _ _ _ _ _ hd ι er dr h l re H D R) w hw) ?_
      rintro x a' w' ⟨c,hr⟩
      cases x with
      | normal=>
        exfalso
        have hx:=c.1
        obtain⟨x',e1,d1,s1⟩:=o
        cases x' with
        | normal=>exact hne _ _ _ hd
        | _=>cases hx
      | _=>exact⟨c,hr⟩
theorem zfA (sd:Snd P self){b:Code}(hd:zd9 self m ro b e d s=.ok o)(re:RE ι m e er)(H:Sim P ι s h)(D:DL ι d dr)(R:RO ι ro l):WP l P (.loop b) (CP P ι s h m o) er dr h:=
  zQ fun w hw=>wpIn_loop_rounds 1000000 (zfh sd 1000000 hd re H D R w hw)
section scope
variable {b:Frame} {a:Act} {k:List Item} {cs:List Frame} {w:World}
theorem zbi {c:Code}:Go.step P (lone (b.atR a (.code (.scope c)::k)) cs w)=.next (lone (b.atR a (.code c::.inScope c::k)) cs w):=
  step_lone_go (by simp [stepG,stepG.exec,Frame.atR])
theorem zi6 {c:Code}:Go.step P (lone (b.atR a (.inScope c::k)) cs w)=.next (lone (b.atR a k) cs w):=
  step_lone_go (by simp [stepG,stepG.exec,Frame.atR])
end scope
theorem zmJ {F:Fence}{n:Nat}{Q:Exit→Act→World→Prop}{a:Act}{w:World}{c:Code}(hc:c.wpIn F n P (fun x a w=>(∀ i,x≠.goto i)∧Q x a w) a w):(Code.scope c).wpIn F n P Q a w:=by
  intro b k cs hro hb hr
  have h0:(lone (b.atR a (.code (.scope c)::k)) cs w).fenced P F:=fenced_calm hb hr rfl
  obtain⟨e,a₁,w₁,hq,harr⟩:=hc b (.inScope c::k) cs hro hb hr
  cases e with
  | normal=>exact⟨.normal,a₁,w₁,hq.2,.head h0 zbi (StepsIn.trans harr (.one (fenced_calm hb hr rfl) zi6))⟩
  | exit id=>
    have hx:exitTo id (.inScope c::k)=exitTo id k:=by simp [exitTo]
    exact⟨.exit id,a₁,w₁,hq.2,fun k' hk=>.head h0 zbi (harr.1 k' (by rw [hx]; exact hk)),
      fun hr' hk=>let ⟨k₁,h1,h2⟩:=harr.2 hr' (by rw [hx]; exact hk); ⟨k₁,h1,.head h0 zbi h2⟩⟩
  | goto l=>exact absurd rfl (hq.1 l)
  | ret=>exact⟨_,a₁,w₁,hq.2,.of_steps (.one h0 zbi) harr⟩
  | panic ch=>exact⟨_,a₁,w₁,hq.2,.of_steps (.one h0 zbi) harr⟩
  | outgrown=>exact⟨_,a₁,w₁,hq.2,.of_steps (.one h0 zbi) harr⟩
theorem c_scope (sd:Snd P self){b:Code}(hd:zhx self m ro b e d s=.ok o)(re:RE ι m e er)(H:Sim P ι s h)(D:DL ι d dr)(R:RO ι ro l):WP l P (.scope b) (CP P ι s h m o) er dr h:=by
  unfold zhx at hd
  split at hd
  · cases hd
  · rename_i hne
    refine zQ fun w hw=>zmJ (wpIn_mono (zad (sd _ _ _ _ _ _ _ hd ι er dr h l re H D R) w hw) ?_)
    rintro x a' w' ⟨c,hr⟩
    refine⟨?_,c,hr⟩
    rintro i rfl
    have hx:=c.1
    obtain⟨x',e1,d1,s1⟩:=o
    cases x' with
    | goto j=>exact hne _ _ _ _ hd
    | _=>cases hx
end steps
end Go.Run
namespace Go.Run
open Go Go.Eng
section calls
variable {P:Program} {p:Pr} {ι:Io} {s s':S} {h:Heap} {m:Fm} {e e':E} {er:Env} {self:zu} {ro:Option Nat} {d:List Nat} {dr:List Deferred} {l:Option Nat} {o:Out} {t:T}
theorem zdc {f:FuncId}{fn:Func}{c:Code}{args:Array Value}{h:Heap}{K:Value→Heap→Prop}(hf:P.funcs[f]?=some fn)(hb:fn.body=some c)(hbod:zq P f=true)
    (H:WP none P c (retK P fn.results.toList K) (args.toList++List.replicate (fn.ntmps - args.size) undef) [] h):zb P f args h K:=by
  unfold zb
  refine⟨hbod,fun w hw=>?_⟩
  unfold zaR
  refine callsIn_wide.1 (callsIn_of_wp_marks (F:=Fence.wide) (n:=0) hf hb trivial ?_ rfl)
  have h1:=zad H w hw
  have he:(args.toList++List.replicate (fn.ntmps - args.size) undef).toArray=args++Array.replicate (fn.ntmps - args.size) undef:=by
    apply Array.toList_inj.1; simp
  rw [he] at h1
  refine wpIn_mono h1 ?_
  rintro x a w' ⟨hq,hr⟩
  cases x with
  | normal=>
    unfold retK at hq
    have:=zbo (P:=P) (fn:=fn) a.defers w' hr hq
    rw [Array.toArray_toList] at this; exact this
  | ret=>
    unfold retK at hq
    have:=zbo (P:=P) (fn:=fn) a.defers w' hr hq
    rw [Array.toArray_toList] at this; exact this
  | _=>unfold retK at hq; exact hq.elim
theorem zk7 {n:Nat}(hn:n≤1024):n≤2 ^ za7 n:=by
  unfold za7
  rw [zA,zA,zA]
  split
  · rename_i h; exact zf.1 h
  · split
    · rename_i h; exact zf.1 h
    · split
      · rename_i h; exact zf.1 h
      · exact hn
theorem zjV {β:Type}:∀ (vs:List T) (i:Nat) (e:E) (k:E→β),zcW m vs i e k=k (zcW m vs i e id)
  | [],i,e,k=>rfl
  | v::vs,i,e,k=>by
    simp only [zcW,En.zac]
    rw [zjV vs (i+1) _ k]
theorem zjO:∀ (vs:List T) (us:List Value) (i:Nat) (e:E) (er:Env),RE ι m e er→VL ι vs us→i+vs.length≤m.n→RE ι m (zcW m vs i e id) (er.take i++us++er.drop (i+us.length))
  | [],us,i,e,er,re,hv,_=>by
    simp only [VL] at hv
    subst hv
    simpa [zcW] using re
  | v::vs,us,i,e,er,re,hv,hl=>by
    obtain⟨u,us,rfl,h1,h2⟩:=hv.cons'
    simp only [List.length_cons] at hl
    simp only [zcW,En.zac]
    have hi:i<er.length:=by rw [re.len]; omega
    have:=zjO vs us (i+1) _ _ (re.set (q:=i) (by omega) h1) h2 (by omega)
    have he:(er.set i u).take (i+1)++us++(er.set i u).drop (i+1+us.length)=er.take i++(u::us)++er.drop (i+(u::us).length):=by
      have e1:(er.set i u).take (i+1)=er.take i++[u]:=by
        apply List.ext_getElem?
        intro j
        rw [List.getElem?_take,List.getElem?_set,List.getElem?_append,List.length_take,Nat.min_eq_left (Nat.le_of_lt hi),List.getElem?_take]
        by_cases h1:j<i
        · rw [if_pos (by omega),if_neg (by omega),if_pos h1,if_pos h1]
        · by_cases h2:j=i
          · subst h2
            rw [if_pos (by omega),if_pos rfl,if_pos hi,if_neg h1,Nat.sub_self]; rfl
          · rw [if_neg (by omega),if_neg h1,List.getElem?_eq_none (by simp; omega)]
      have e2:(er.set i u).drop (i+1+us.length)=er.drop (i+(u::us).length):=by
        rw [List.drop_set_of_lt (by omega),List.length_cons]
        congr 1
        omega
      rw [e1,e2]
      simp
    rw [he] at this
    exact this
theorem zhc {vs:List T}{us:List Value}{nt:Nat}(hv:VL ι vs us)(hl:vs.length≤nt)(hn:nt≤1024):RE ι ⟨za7 nt,nt⟩ (zcW ⟨za7 nt,nt⟩ vs 0 (.leaf zae) id) (us++List.replicate (nt - us.length) undef):=by
  have re0:RE ι ⟨za7 nt,nt⟩ (.leaf zae) (List.replicate nt undef):=by
    refine⟨by simp,zk7 hn,fun i hi=>?_⟩
    rw [En.get_leaf]
    have:(List.replicate nt undef).getD i undef=undef:=by simp [List.getD,List.getElem?_replicate]; split <;> rfl
    rw [this]
    exact zdj
  have:=zjO vs us 0 _ _ re0 hv (by simpa using hl)
  simpa using this
theorem zf0:∀ {d:List Nat} {dr:List Deferred} {s s1:S} {h:Heap},zeZ d s=some s1→DL ι d dr→Sim P ι s h→zgQ h dr∧Ste ι s h ι s1 (zdk h dr)∧Sim P ι s1 (zdk h dr)
  | [],dr,s,s1,h,hc,D,H=>by
    have D:dr=[]:=D
    subst D
    simp only [zeZ,Option.some.injEq] at hc
    subst hc
    exact⟨trivial,Ste.refl ..,H⟩
  | b::ds,dr,s,s1,h,hc,D,H=>by
    obtain⟨y,r,hy,rfl,D⟩:=D
    simp only [zeZ] at hc
    split at hc
    · rename_i hb
      obtain⟨y',ob,h1,h2,h3⟩:=H.obj b _ hb
      rw [hy] at h1; cases h1
      have h3:ob=.deferred (some []):=h3
      subst h3
      obtain⟨ι2,q1,q2,_⟩:=zaV (t:=zae) (v:=undef) H hb hy (o:=.defs false) (ob:=.deferred none) rfl zdj
      have:ι=ι2:=by
        symm
        funext c
        cases hc2:ι2 c with
        | none=>
          cases hc3:ι c with
          | none=>rfl
          | some x=>have:=q1.sub c x hc3; rw [hc2] at this; cases this
        | some x=>
          rcases q1.grow c x hc2 with h4 | ⟨h4,_⟩
          · exact h4.symm
          · have:=(q2.fresh c x hc2).1
            have hnx:(putO s b (.defs false)).nx=s.nx:=by rw [zda,zas]
            omega
      subst this
      obtain⟨a1,a2,a3⟩:=zf0 hc D q2
      exact⟨⟨y.r,rfl,h2,a1⟩,q1.trans H.fresh a2,a3⟩
    · cases hc
theorem zjQ {acc:List Value}{K:Value→Heap→Prop}:resA P [] er acc K h=K (zcu acc) h:=by
  match acc with
  | []=>rw [zkO]; rfl
  | [v]=>rw [zku]; rfl
  | v::u::vs=>rw [zjU]; rfl
theorem zeV (ok:Ok P p){K:Value→Heap→Prop}(H:Sim P ι s h)(re:RE ι m e er):∀ {rs:List ResultVar} {vs:List T} {acc:List Value},resT p m rs e s=some vs→(∀ us,VL ι vs us→K (zcu (acc++us)) h)→resA P rs er acc K h
  | [],vs,acc,hr,hK=>by
    simp only [resT,Option.some.injEq] at hr
    subst hr
    rw [zjQ]
    have:=hK [] rfl
    rw [List.append_nil] at this
    exact this
  | .tmp q::rs,vs,acc,hr,hK=>by
    simp only [resT] at hr
    split at hr
    · rename_i r h1
      cases hr
      rw [zgj]
      refine zeV ok H re h1 fun us hu=>?_
      have:=hK (er.getD q undef::us) (by simp only [VL]; exact⟨_,_,rfl,zbA re q,hu⟩)
      simpa using this
    · cases hr
  | .cell a q::rs,vs,acc,hr,hK=>by
    simp only [resT] at hr
    split at hr
    · rename_i v r h1 h2
      cases hr
      rw [zfd]
      refine zjH ok H (zbA re a) h1 fun u hu=>?_
      rw [zhE]
      refine zeV ok H re h2 fun us hus=>?_
      have:=hK (u::us) (by simp only [VL]; exact⟨_,_,rfl,hu,hus⟩)
      simpa using this
    · cases hr
theorem pack_VR {vs:List T}{us:List Value}(hv:VL ι vs us):VR ι (packT vs) (zcu us):=by
  match vs,hv with
  | [],hv=>
    simp only [VL] at hv; subst hv
    simp only [packT,zcu,VR]
    exact⟨_,rfl,by simp [VL]⟩
  | [v],hv=>
    obtain⟨u,rfl,h1⟩:=hv.one
    exact h1
  | v::w::vs,hv=>
    have hv':=hv
    obtain⟨u,us,rfl,h1,h2⟩:=hv.cons'
    obtain⟨u',us,rfl,h3,h4⟩:=h2.cons'
    simp only [packT,zcu,VR]
    exact⟨_,rfl,by simpa using hv'⟩
theorem zff (ok:Ok P p){rs:List ResultVar}{ι0:Io}{s0:S}{h0:Heap}(H0:Sim P ι0 s0 h0)(q:Ste ι0 s0 h0 ι s h)(H:Sim P ι s h)(re:RE ι m e er)(D:DL ι d dr)(hd:zhq p m rs e d s=.ok (t,s')) :
    finW P rs er dr h (Post P ι0 s0 h0 t s'):=by
  unfold zhq at hd
  split at hd
  · rename_i s1 hc
    split at hd
    · rename_i vs hr
      cases hd
      obtain⟨a1,a2,a3⟩:=zf0 hc D H
      unfold finW
      refine⟨a1,zeV ok a3 re hr fun us hu=>?_⟩
      rw [List.nil_append]
      exact⟨ι,q.trans H0.fresh a2,a3,pack_VR hu⟩
    · cases hd
  · cases hd
theorem fn_sound (ok:Ok P p)(sd:Snd P self){g:FuncId}{vs:List T}{us:List Value}(hd:zg7 p self g vs s=.ok (t,s'))(hv:VL ι vs us)(H:Sim P ι s h):zb P g us.toArray h (Post P ι s h t s'):=by
  unfold zg7 at hd
  split at hd
  · rename_i fi hfi
    have hm:=ok.fn g fi hfi
    unfold mkFI at hm
    split at hm
    · rename_i fn hf
      split at hm
      · rename_i c hb
        split at hm
        · rename_i hbod
          cases hm
          rw [zA] at hd
          split at hd
          · rename_i hc
            simp only [Bool.and_eq_true] at hc
            have h1:=zf.1 hc.1
            have h2:=zf.1 hc.2
            have re:=zhc hv h1 h2
            rw [zjV] at hd
            refine zdc hf hb hbod ?_
            have hsz:us.toArray.size=us.length:=by simp
            rw [hsz,List.toList_toArray]
            split at hd
            · rename_i e1 d1 s1 hr
              refine zbz ?_ (sd _ _ _ _ _ _ _ hr ι _ [] h none re H rfl rfl)
              rintro x er' dr' h' ⟨hx,ι',q1,q2,q3,q4⟩
              obtain rfl:x=.normal:=hx
              unfold retK
              exact zff ok H q1 q2 q3 q4 hd
            · rename_i e1 d1 s1 hr
              refine zbz ?_ (sd _ _ _ _ _ _ _ hr ι _ [] h none re H rfl rfl)
              rintro x er' dr' h' ⟨hx,ι',q1,q2,q3,q4⟩
              obtain rfl:x=.ret:=hx
              unfold retK
              exact zff ok H q1 q2 q3 q4 hd
            · cases hd
            · cases hd
          · cases hd
        · cases hm
      · cases hm
    · cases hm
  · cases hd
noncomputable def zb9 (P:Program)(p:Pr):Prop:=∀ g vs s t s',p.lib g≠0→libT s (p.lib g) vs=some (t,s')→∀ ι us h,VL ι vs us→Sim P ι s h→zb P g us.toArray h (Post P ι s h t s')
theorem ziT (ok:Ok P p)(lb:zb9 P p)(sd:Snd P self){g:FuncId}{vs:List T}{us:List Value}(hd:zfQ p self g vs s=.ok (t,s'))(hv:VL ι vs us)(H:Sim P ι s h):zb P g us.toArray h (Post P ι s h t s'):=by
  unfold zfQ at hd
  split at hd
  · exact fn_sound ok sd hd hv H
  · rename_i c hc
    split at hd
    · rename_i r hr
      cases hd
      exact lb g vs s _ _ hc hr ι us h hv H
    · cases hd
theorem zc3 {g:FuncId}{first caps:Array Value}{vs:List Value}{K:Value→Heap→Prop}(hc:zb P g (first++vs.toArray++caps) h K):zgJ P (.func (.func g) first caps) vs h K:=by
  intro er f xs ats ty hf hx
  refine zl ?_
  rw [zj2,hf,zgK]
  have:xs.map (ev er)=vs.toArray:=by apply Array.toList_inj.1; simpa using hx
  rw [this]
  exact hc
end calls
end Go.Run
namespace Go.Run
open Go Go.Eng
section yields
variable {P:Program} {p:Pr} {ι:Io} {s s':S} {h:Heap} {m:Fm} {e e':E} {er:Env} {self:zu} {ro:Option Nat} {d:List Nat} {dr:List Deferred} {l:Option Nat} {o:Out} {t:T}
theorem zmo (H:Sim P ι s h){b:Nat}{r:LO}(hl:zb2 s b=some r){y:Inf}(hy:ι b=some y) :
    ∃ (rec:Loop) (z:Inf),h[y.r]?=some (.loop rec)∧rec.state=r.st∧rec.pending=r.pend∧rec.params=r.pa.toArray∧rec.assign=r.asg∧rec.body=r.bd∧ι r.df=some z∧rec.defers=z.r∧RE ι r.m r.tm rec.tmps.toList:=by
  unfold zb2 at hl
  split at hl
  · rename_i st pend dp n tm pa asg bd df hb
    cases hl
    obtain⟨y',ob,h1,h2,h3⟩:=H.obj b _ hb
    rw [hy] at h1; cases h1
    obtain⟨fn,tr,z,h4,rfl,h5⟩:=h3
    exact⟨_,z,h2,rfl,rfl,rfl,rfl,rfl,h4,rfl,h5⟩
  · cases hl
theorem zeb (H:Sim P ι s h){b:Nat}{r:LO}(hl:zb2 s b=some r){y:Inf}(hy:ι b=some y)(st:LoopState)(pend:Option Code) :
    ∃ rec:Loop,h[y.r]?=some (.loop rec)∧rec.state=r.st∧rec.pending=r.pend∧Sim P ι (zbh s b { r with st:=st,pend:=pend }) (h.setIfInBounds y.r (.loop { rec with state:=st,pending:=pend })) ∧
      Ste ι s h ι (zbh s b { r with st:=st,pend:=pend }) (h.setIfInBounds y.r (.loop { rec with state:=st,pending:=pend })):=by
  unfold zb2 at hl
  split at hl
  · rename_i st0 pend0 dp n tm pa asg bd df hb
    cases hl
    obtain⟨y',ob,h1,h2,h3⟩:=H.obj b _ hb
    rw [hy] at h1; cases h1
    obtain⟨fn,tr,z,h4,rfl,h5⟩:=h3
    refine⟨_,h2,rfl,rfl,?_⟩
    obtain⟨u,hg⟩:=zhN (zN h2) (.loop { state:=st,pending:=pend,fn:=fn,tmps:=tr,params:=pa.toArray,assign:=asg,body:=bd,defers:=z.r })
    obtain⟨q1,q2⟩:=zbV H hb hy (o:=.loop st pend dp n tm pa asg bd df) ⟨fn,tr,z,h4,rfl,h5⟩ u hg (low:=min s.low b) (Nat.min_le_left _ _) (.inl (Nat.min_le_right _ _)) (by simp [VO.am])
    rw [← zda] at q1 q2
    exact⟨q1,q2⟩
  · cases hl
theorem zis {β:Type}:∀ (qs:List Tmp) (vs:List T) (e:E) (k:E→β),zcL m qs vs e k=k (zcL m qs vs e id)
  | [],vs,e,k=>by cases vs <;> rfl
  | q::qs,[],e,k=>rfl
  | q::qs,v::vs,e,k=>by
    simp only [zcL,En.zac]
    rw [zis qs vs _ k]
theorem zif:∀ (qs:List Tmp) (vs:List T) (us:List Value) (e:E) (er:Env),RE ι m e er→VL ι vs us→qs.length=vs.length→(∀ q∈qs,q<m.n)→RE ι m (zcL m qs vs e id) ((qs.zip us).foldl (fun er (x:Tmp × Value)=>er.set x.1 x.2) er)
  | [],vs,us,e,er,re,hv,hl,hq=>by
    cases vs with
    | nil=>simpa [zcL] using re
    | cons v vs=>simp at hl
  | q::qs,vs,us,e,er,re,hv,hl,hq=>by
    cases vs with
    | nil=>simp at hl
    | cons v vs=>
      obtain⟨u,us,rfl,h1,h2⟩:=hv.cons'
      simp only [zcL,En.zac,List.zip_cons_cons,List.foldl_cons]
      exact zif qs vs us _ _ (re.set (hq q (by simp)) h1) h2 (by simpa using hl) fun q' hq'=>hq q' (by simp [hq'])
theorem ziz:∀ (l:List (Tmp × Value)) (a:Array Value),(l.foldl (fun tmps (x:Tmp × Value)=>tmps.setIfInBounds x.1 x.2) a).toList=l.foldl (fun er (x:Tmp × Value)=>er.set x.1 x.2) a.toList
  | [],a=>rfl
  | x::l,a=>by
    simp only [List.foldl_cons]
    rw [ziz l]
    simp
theorem run_getLoop {w:World}{r:Nat}{rec:Loop}(hr:w.heap[r]?=some (.loop rec)):(Instr.getLoop r).run P w=.ok rec w:=by
  simp [Instr.getLoop,getObj,Sem.run,hr,Result.andThen]
theorem zdM {w:World}{r:Nat}{rec:Loop}(hr:w.heap[r]?=some (.loop rec))(o:Obj):(setObj r o).run P w=.ok () { w with heap:=w.heap.setIfInBounds r o }:=by
  simp [setObj,Sem.run,hr]
theorem run_yield {w:World}{r:Nat}{rec:Loop}(hr:w.heap[r]?=some (.loop rec)){args:Array Value}(hs:args.size=rec.params.size) :
    (Instr.yield r args).run P w=.ok (.round r rec.fn ((rec.params.zip args).foldl (fun tmps (x:Tmp × Value)=>tmps.setIfInBounds x.1 x.2) rec.tmps) rec.assign rec.body) w:=by
  simp [Instr.yield,run_getLoop hr,Result.andThen,hs]
theorem zot {w:World}{r:Nat}{rec:Loop}(hr:w.heap[r]?=some (.loop rec))(hs:rec.state=.ready) :
    (Instr.beginRound r).run P w=.ok () { w with heap:=w.heap.setIfInBounds r (.loop { rec with state:=.busy }) }:=by
  simp [Instr.beginRound,run_getLoop hr,zdM hr,Result.andThen,hs]
theorem run_end {w:World}{r:Nat}{rec:Loop}(hr:w.heap[r]?=some (.loop rec))(j:Option Code) :
    (Instr.endRound r j).run P w=.ok (.bool j.isNone) { w with heap:=w.heap.setIfInBounds r (.loop { rec with state:=if j.isNone then .ready else .done,pending:=j }) }:=by
  simp [Instr.endRound,run_getLoop hr,zdM hr,Result.andThen]
theorem run_endLoop {w:World}{r:Nat}{rec:Loop}(hr:w.heap[r]?=some (.loop rec))(hs:rec.state≠.busy) :
    (Instr.endLoop r).run P w=.ok rec.pending { w with heap:=w.heap.setIfInBounds r (.loop { rec with state:=.exhausted }) }:=by
  have:(rec.state == LoopState.busy)=false:=by cases hst:rec.state <;> first | rfl | exact absurd hst hs
  simp [Instr.endLoop,run_getLoop hr,zdM hr,Result.andThen,this]
  intro hh; exact absurd hh hs
theorem zk9 (sd:Snd P self){b:Nat}{args:List T}{us:List Value}{y:Inf}(hd:ze1 self b args s=.ok (t,s'))(hy:ι b=some y)(hv:VL ι args us)(H:Sim P ι s h):zgJ P (.func (.yield y.r) #[] #[]) us h (Post P ι s h t s'):=by
  unfold ze1 at hd
  split at hd
  · rename_i r hl
    obtain⟨rec,z,g1,g2,g3,g4,g5,g6,g7,g8,g9⟩:=zmo H hl hy
    rw [zA] at hd
    split at hd
    · rename_i hc
      simp only [Bool.and_eq_true] at hc
      have hlen:=Nat.eq_of_beq_eq_true hc.1
      have hfit:∀ q∈r.pa,q<r.m.n:=fun q hq=>zf.1 (List.all_eq_true.1 hc.2 q hq)
      rw [zis] at hd
      have re0:=zif r.pa args us r.tm _ g9 hv hlen hfit
      split at hd
      · rename_i e1 d1 s1 h1
        split at hd
        · rename_i r1 hl1
          split at hd
          · rename_i hst1
            split at hd
            · rename_i x e2 d2 s2 h2
              split at hd
              · rename_i r2 hl2
                intro er f xs ats ty hf hx
                unfold ze
                refine And.intro rfl fun w hw=>?_
                subst hw
                have hargs:xs.map (ev er)=us.toArray:=by apply Array.toList_inj.1; simpa using hx
                have hrun : (execOp (ev er) { dst := none, op := .call ⟨.value f, xs, ats⟩, type := ty, pos := "", after := #[], guard := none }).run P w = .ok (.round y.r rec.fn ((rec.params.zip us.toArray).foldl (fun tmps (x : Tmp × Value) => tmps.setIfInBounds x.1 x.2) rec.tmps) rec.assign rec.body) w := by
                  have:=run_yield (P:=P) g1 (args:=us.toArray) (by rw [g4]; simp [hv.length,hlen])
                  simp only [execOp,resolve,hf,Deferred.ofValue,invoke,Sem.run_bind,Sem.run_pure,Result.andThen_ok,hargs,Array.empty_append,this]
                rw [hrun]
                refine⟨Eng.Rest.refl w,roundIn_of_wpIn trivial ?_⟩
                have ha:=zad (sd _ _ _ _ _ _ _ h1 ι _ [] w.heap (some y.r) re0 H rfl ⟨y,hy,rfl⟩) w rfl
                have htm:((r.pa.zip us).foldl (fun er (x:Tmp × Value)=>er.set x.1 x.2) rec.tmps.toList).toArray=((rec.params.zip us.toArray).foldl (fun tmps (x:Tmp × Value)=>tmps.setIfInBounds x.1 x.2) rec.tmps):=by
                  apply Array.toList_inj.1
                  rw [← Array.foldl_toList,ziz,g4]
                  simp
                rw [htm,← g5] at ha
                refine wpIn_mono ha ?_
                rintro x1 a1 w1 ⟨⟨hx1,ι1,q1,q2,q3,q4⟩,hr1⟩
                obtain rfl:x1=.normal:=hx1
                have hy1:=q1.sub b y hy
                obtain⟨rec1,b1,b2,b3,b4,b5⟩:=zeb q2 hl1 hy1 .busy r1.pend
                have hb:=zot (P:=P) b1 (by rw [b2]; exact hst1)
                have hrec1:({ rec1 with state:=.busy }:Loop)={ rec1 with state:=.busy,pending:=r1.pend }:=by rw [← b3]
                rw [hrec1] at hb
                refine⟨_,hb,?_⟩
                have hbd:rec.body=r.bd:=g6
                have hr1bd:r1.bd=r1.bd:=rfl
                have hbody:=zad (sd _ _ _ _ _ _ _ h2 ι1 _ _ _ (some y.r) q3 b4 q4 ⟨y,hy1,rfl⟩) { w1 with heap:=w1.heap.setIfInBounds y.r (.loop { rec1 with state:=.busy,pending:=r1.pend }) } rfl
                rw [zaN] at hbody
                rw [hbd]
                refine wpIn_mono hbody ?_
                rintro x2 a2 w2 ⟨⟨hx2,ι2,c1,c2,c3,c4⟩,hr2⟩
                obtain rfl:x2=exR x:=hx2
                have hy2:=c1.sub b y hy1
                have hste:Ste ι s w.heap ι2 s2 w2.heap:=(q1.trans H.fresh b5).trans H.fresh c1
                have hrest:Eng.Rest w w2:=hr1.trans ⟨hr2.os,hr2.tape,hr2.output⟩
                have fin:∀ (j:Option Code),(match zjP x with
                    | none=>.ok (.bool true,zbh s2 b { r2 with st:=.ready,pend:=none })
                    | some j=>.ok (.bool false,zbh s2 b { r2 with st:=.done,pend:=some j }):Res (T × S))=.ok (t,s')→zjP x=j→∃ v w',(Instr.endRound y.r j).run P w2=.ok v w'∧∃ v',Ending.returned v=Ending.returned v'∧Post P ι s w.heap t s' v' w'.heap∧Eng.Rest w w':=by
                  intro j hd hj
                  cases j with
                  | none=>
                    rw [hj] at hd
                    simp only [Res.ok.injEq,Prod.mk.injEq] at hd
                    obtain⟨rfl,rfl⟩:=hd
                    obtain⟨rec2,k1,k2,k3,k4,k5⟩:=zeb c2 hl2 hy2 .ready none
                    have:=run_end (P:=P) k1 none
                    refine⟨_,_,this,_,rfl,⟨ι2,hste.trans H.fresh k5,k4,by simp only [VR]; rfl⟩,hrest.trans ⟨rfl,rfl,rfl⟩⟩
                  | some j=>
                    rw [hj] at hd
                    simp only [Res.ok.injEq,Prod.mk.injEq] at hd
                    obtain⟨rfl,rfl⟩:=hd
                    obtain⟨rec2,k1,k2,k3,k4,k5⟩:=zeb c2 hl2 hy2 .done (some j)
                    have:=run_end (P:=P) k1 (some j)
                    refine⟨_,_,this,_,rfl,⟨ι2,hste.trans H.fresh k5,k4,by simp only [VR]; rfl⟩,hrest.trans ⟨rfl,rfl,rfl⟩⟩
                cases x with
                | normal=>exact fin none hd rfl
                | ret=>exact fin (some .ret) hd rfl
                | exit i=>exact fin (some (.exit i)) hd rfl
                | goto i=>exact fin (some (.goto i)) hd rfl
              · cases hd
            · cases hd
          · cases hd
        · cases hd
      · cases hd
      · cases hd
    · cases hd
  · cases hd
theorem zj1 (H:Sim P ι s h)(D:DL ι d dr)(R:RO ι ro l){df:Nat}{d1:List Nat}{s1:S}(hd:around ro d s=some (df,d1,s1)) :
    ∃ ι1 h1 z mark,Ste ι s h ι1 s1 h1∧Sim P ι1 s1 h1∧ι1 df=some z∧DL ι1 d1 (mark++dr)∧∀ (fn:FuncId) (tmps:Array Value) (ps:Array Tmp) (a b:Code) (w:World),w.heap=h →
      (Instr.enterLoop fn tmps ps a b l).run P w=.ok (h1.size,mark) { w with heap:=h1.push (.loop { state:=.ready,pending:=none,fn,tmps,params:=ps,assign:=a,body:=b,defers:=z.r }) }:=by
  unfold around at hd
  split at hd
  · rename_i b0
    split at hd
    · rename_i r hl
      cases hd
      obtain⟨y,hy,rfl⟩:=R
      obtain⟨rec,z,g1,g2,g3,g4,g5,g6,g7,g8,g9⟩:=zmo H hl hy
      refine⟨ι,h,z,[],Ste.refl ..,H,g7,D,fun fn tmps ps a b w hw=>?_⟩
      subst hw
      simp [Instr.enterLoop,run_getLoop g1,newObj,Sem.run,Result.andThen,g8]
    · cases hd
  · simp only [Option.some.injEq,Prod.mk.injEq] at hd
    obtain⟨rfl,rfl,rfl⟩:=hd
    have R:l=none:=R
    subst R
    have hn:=H.nxNone (Nat.le_refl s.nx)
    have hnew:=zbq H (o:=.defs true) (ob:=.deferred (some [])) (x:=⟨h.size,0,#[],0,0⟩) rfl rfl
    refine⟨_,_,⟨h.size,0,#[],0,0⟩,[{ target:=.collected h.size,args:=#[] }],hnew.2,hnew.1,Io.put_self,⟨_,dr,Io.put_self,rfl,D.mono (Io.put_sub hn)⟩,fun fn tmps ps a b w hw=>?_⟩
    subst hw
    simp [Instr.enterLoop,newObj,Sem.run,Result.andThen]
    exact⟨rfl,rfl,rfl⟩
theorem c_range (ok:Ok P p)(lb:zb9 P p)(sd:Snd P self){f:Operand}{ps:Array Tmp}{a b:Code}(hd:zh4 p self m ro f ps a b e d s=.ok o)(re:RE ι m e er)(H:Sim P ι s h)(D:DL ι d dr)(R:RO ι ro l):WP l P (.rangeFunc f ps a b) (CP P ι s h m o) er dr h:=by
  unfold zh4 at hd
  split at hd
  · rename_i g hg
    replace hg:=zo re hg
    unfold rangeF at hd
    split at hd
    · rename_i df d1 s1 har
      obtain⟨ι1,h1,z,mark,q1,q2,q3,q4,q5⟩:=zj1 H D R har
      split at hd
      · rename_i t2 s2 hcall
        unfold callG at hcall
        split at hcall
        · rename_i gf first caps
          simp only [VR] at hg
          obtain⟨c,dd,hgv,hvc,hvd⟩:=hg
          have hn1:=q2.nxNone (Nat.le_refl s1.nx)
          have hsub1:=Io.put_sub (x:=⟨h1.size,0,#[],0,0⟩) hn1
          have re1:RE (ι1.put s1.nx ⟨h1.size,0,#[],0,0⟩) m e er:=(re.mono q1.sub).mono hsub1
          split at hd
          · rename_i r hl
            split at hd
            · cases hd
            · rename_i hst
              refine zQ fun w hw=>wpIn_rangeFunc fun fn _=>?_
              subst hw
              have hent:=q5 fn er.toArray ps a b w rfl
              have hnew:=zbq q2 (o:=.loop .ready none m.dp m.n e ps.toList a b df) (ob:=.loop { state:=.ready,pending:=none,fn,tmps:=er.toArray,params:=ps,assign:=a,body:=b,defers:=z.r }) (x:=⟨h1.size,0,#[],0,0⟩) rfl
                ⟨fn,er.toArray,z,hsub1 _ _ q3,by simp,by simpa using re1⟩
              have hvl:VL (ι1.put s1.nx ⟨h1.size,0,#[],0,0⟩) (first++[T.func (.yield s1.nx) [] []]++caps) (c.toList++[Value.func (.yield h1.size) #[] #[]]++dd.toList):=by
                refine ((VL.mono hsub1 _ (VL.mono q1.sub _ hvc)).append ?_).append (VL.mono hsub1 _ (VL.mono q1.sub _ hvd))
                simp only [VL]
                refine⟨_,_,rfl,?_,rfl⟩
                simp only [VR]
                exact⟨trivial,trivial,_,Io.put_self,rfl⟩
              have hcl:=ziT ok lb sd hcall hvl hnew.1
              unfold zb at hcl
              obtain⟨hbod,hcl⟩:=hcl
              obtain⟨W1,hW1⟩:∃ W1:World,W1={ w with heap:=h1.push (.loop { state:=.ready,pending:=none,fn,tmps:=er.toArray,params:=ps,assign:=a,body:=b,defers:=z.r }) }:=⟨_,rfl⟩
              rw [← hW1] at hent
              have hcw:=hcl W1 (by rw [hW1])
              unfold zaR at hcw
              refine⟨h1.size,mark,W1,⟨.fn (.func gf) dd,c++#[.func (.yield h1.size) #[] #[]]⟩,W1,gf,c++#[.func (.yield h1.size) #[] #[]]++dd,W1,hent,?_,fun _ _=>trivial,?_,fun hh=>by simp [zcC] at hh,zeg l ?_⟩
              · have hev:ev er (.const (.func (.yield h1.size) #[] #[]))=.func (.yield h1.size) #[] #[]:=rfl
                rw [zaw]
                simp only [resolve,hgv,Deferred.ofValue,Sem.run_pure,List.map_toArray,List.map_cons,List.map_nil,hev]
              · show (callFunc gf (c++#[.func (.yield h1.size) #[] #[]]++dd)).run P _=_
                exact zkz hbod _
              · have hargs:(c.toList++[Value.func (.yield h1.size) #[] #[]]++dd.toList).toArray=c++#[.func (.yield h1.size) #[] #[]]++dd:=by
                  apply Array.toList_inj.1; simp
                rw [hargs] at hcw
                refine Calls.mono hcw ?_
                rintro e' w3 ⟨v,rfl,⟨ι3,a1,a2,a3⟩,hr3⟩
                have hr3:Eng.Rest w w3:=by rw [hW1] at hr3; exact⟨hr3.os,hr3.tape,hr3.output⟩
                have hy3:=a1.sub _ _ (Io.put_self (ι:=ι1) (b:=s1.nx) (x:=⟨h1.size,0,#[],0,0⟩))
                obtain⟨rec,k1,k2,k3,k4,k5⟩:=zeb a2 hl hy3 .exhausted r.pend
                have hbusy:rec.state≠.busy:=by rw [k2]; exact hst
                have hend:=run_endLoop (P:=P) k1 hbusy
                have hrec:({ rec with state:=.exhausted }:Loop)={ rec with state:=.exhausted,pending:=r.pend }:=by rw [← k3]
                rw [hrec] at hend
                have hst3:Ste ι s w.heap ι3 (zbh s2 s1.nx { r with st:=.exhausted,pend:=r.pend }) (w3.heap.setIfInBounds h1.size (.loop { rec with state:=.exhausted,pending:=r.pend })):=
                  ((q1.trans H.fresh hnew.2).trans H.fresh a1).trans H.fresh k5
                have re3:RE ι3 m e er:=re1.mono a1.sub
                have D3:DL ι3 d1 (mark++dr):=(q4.mono hsub1).mono a1.sub
                refine⟨_,_,hend,?_⟩
                rw [k3]
                split at hd
                · rename_i hp
                  cases hd
                  rw [hp]
                  simp only
                  refine⟨⟨rfl,ι3,?_,?_,by simpa using re3,D3⟩,⟨hr3.os,hr3.tape,hr3.output⟩⟩
                  · rw [hp] at hst3; exact hst3
                  · rw [hp] at k4; exact k4
                · rename_i j hp
                  rw [hp]
                  simp only
                  have R3:RO ι3 ro l:=((R.mono q1.sub).mono hsub1).mono a1.sub
                  rw [hp] at k4 hst3 hd
                  have:=zad (sd _ _ _ _ _ _ _ hd ι3 er (mark++dr) _ l re3 k4 D3 R3) { w3 with heap:=w3.heap.setIfInBounds h1.size (.loop { rec with state:=.exhausted,pending:=some j }) } rfl
                  refine wpIn_mono this ?_
                  rintro x a' w4 ⟨cc,hr4⟩
                  exact⟨cc.trans H hst3,hr3.trans ⟨hr4.os,hr4.tape,hr4.output⟩⟩
          · cases hd
        · cases hcall
      · cases hd
    · cases hd
  · cases hd
end yields
end Go.Run
namespace Go.Run
open Go Go.Eng
section mapl
variable {P:Program} {p:Pr} {ι:Io} {s s':S} {h:Heap} {m:Fm} {e e':E} {er:Env} {self:zu} {ro:Option Nat} {d:List Nat} {dr:List Deferred} {l:Option Nat} {o:Out} {t:T}
noncomputable def headW (l:Option Nat)(P:Program):Code→Value→Cont→Env→List Deferred→Heap→Prop
  | .seq a b,v,k,er,dr,h=>headW l P a v (fun x er dr h=>match x with | .normal=>WP l P b k er dr h | x=>k x er dr h) er dr h
  | .region _ ops false,v,k,er,dr,h=>(match ops.toList with
    | o::rest=>∀ w w0:World,w.heap=h→Eng.Rest w0 w→wpListIn (fen l) 0 P ops (fun x a w'=>k x a.tmps.toList a.defers w'.heap∧Eng.Rest w0 w') rest ⟨(putE er o.dst v).toArray,dr⟩ w
    | []=>False)
  | _,_,_,_,_,_=>False
theorem headW_WP:∀ (b:Code) {q:Tmp} {k:Cont} {er:Env} {dr:List Deferred} {h:Heap},zbQ b=some q→(∀ ty,ze P (.next (.tmp q) false) ty er h (fun v h1=>headW l P b v k er dr h1))→WP l P b k er dr h:=by
  intro b
  induction b with
  | seq a b iha _=>
    intro q k er dr h hn hs
    have ha:=iha (k:=fun x er dr h=>match x with | .normal=>WP l P b k er dr h | x=>k x er dr h) hn hs
    refine zQ fun w hw=>wpIn_seq (wpIn_mono (zad ha w hw) ?_)
    rintro x a' w' ⟨c,hr⟩
    cases x with
    | normal=>
      have:=zad c w' rfl
      rw [zaN] at this
      exact wpIn_mono this fun x a w'' q=>⟨q.1,hr.trans q.2⟩
    | _=>exact⟨c,hr⟩
  | region id ops draw=>
    intro q k er dr h hn hs
    cases draw with
    | true=>simp [zbQ] at hn
    | false=>
      simp only [zbQ] at hn
      split at hn
      · rename_i o rest ho
        split at hn
        · rename_i t hg hop
          cases hn
          refine zQ fun w hw=>wpIn_region_list ?_
          rw [ho]
          unfold wpListIn
          have hw1:Region.wanted o (yielded ops er.toArray)=true:=by unfold Region.wanted; rw [hg]
          simp only [hw1,if_true]
          refine zbd ?_
          rw [hop,hw]
          refine zL ?_ (hs o.type)
          intro v h' hh w' hw' hr'
          unfold headW at hh
          rw [ho] at hh
          exact hh w' w hw' hr'
        · cases hn
      · cases hn
  | _=>intro q k er dr h hn; simp [zbQ] at hn
theorem zg6 (ok:Ok P p)(hcf:zdG P (zc2 p self))(sd:Snd P self){v:T}{vv:Value}:∀ (b:Code) {o:Out} {k:Cont},zbF p self m ro v b e d s=.ok o→RE ι m e er→VR ι v vv→Sim P ι s h→DL ι d dr→RO ι ro l→(∀ x er' dr' h',CP P ι s h m o x er' dr' h'→k x er' dr' h')→headW l P b vv k er dr h:=by
  intro b
  induction b with
  | seq a b iha _=>
    intro o k hd re hv H D R hk
    unfold zbF at hd
    unfold headW
    split at hd
    · rename_i e1 d1 s1 h1
      refine iha h1 re hv H D R ?_
      rintro x er' dr' h' ⟨hx,ι1,q1,q2,q3,q4⟩
      obtain rfl:x=.normal:=hx
      refine zbz ?_ (sd _ _ _ _ _ _ _ hd ι1 _ _ _ l q3 q2 q4 (R.mono q1.sub))
      intro x er'' dr'' h'' c
      exact hk _ _ _ _ (c.trans H q1)
    · rename_i hne
      refine iha hd re hv H D R ?_
      intro x er' dr' h' c
      cases x with
      | normal=>
        exfalso
        have hx:=c.1
        obtain⟨x',e1,d1,s1⟩:=o
        cases x' with
        | normal=>exact hne _ _ _ hd
        | _=>cases hx
      | _=>exact hk _ _ _ _ c
  | region id ops draw=>
    intro o k hd re hv H D R hk
    cases draw with
    | true=>simp [zbF] at hd
    | false=>
      simp only [zbF] at hd
      unfold headW
      cases ho:ops.toList with
      | nil=>rw [ho] at hd; simp at hd
      | cons o1 rest=>
        rw [ho] at hd
        simp only at hd ⊢
        intro w w0 hw hr
        split at hd
        · rename_i e1 s1 hrun
          cases hd
          obtain⟨hfit,hops⟩:=zbS hrun
          have hops:zdQ p m (zc2 p self) ops.toList rest (putT m e o1.dst v) s=.ok (e1,s1):=by rw [ho]; exact hops
          have:=zdA (l:=l) (d:=dr) (w:=w) (w0:=w0) (Q:=fun x a w'=>k x a.tmps.toList a.defers w'.heap∧Eng.Rest w0 w') ok hcf rest _ s hops (re.put hfit hv) H hw hr fun a w' ha hr' ⟨ι',q1,q2,q3⟩=>
            ⟨hk _ _ _ _ ⟨rfl,ι',q1,q2,q3,by rw [ha]; exact D.mono q1.sub⟩,hr'⟩
          simpa using this
        · cases hd
  | _=>intro o k hd; simp [zbF] at hd
noncomputable def zH (f:Nat→Bool):List Ent→Nat→List Ent
  | [],_=>[]
  | x::r,j=>if f j then zH f r (j+1) else x::zH f r (j+1)
theorem zdw (f:Nat→Bool):∀ (es:List Ent) (j:Nat),(zH f es j).Sublist es
  | [],_=>.slnil
  | x::r,j=>by
    unfold zH
    split
    · exact (zdw f r (j+1)).cons x
    · exact (zdw f r (j+1)).cons_cons x
theorem zfb (f:Nat→Bool):∀ {es:List Ent} {j i:Nat} {x:Ent},(zH f es j)[i]?=some x→∃ t,es[t]?=some x∧f (j+t)=false∧((zH f es j).take i).Sublist (es.take t)∧(zH f es j).eraseIdx i=zH (fun u=>f u||u == j+t) es j
  | [],j,i,x,h=>by simp [zH] at h
  | y::r,j,i,x,h=>by
    unfold zH at h ⊢
    split at h
    · rename_i hj
      obtain⟨t,h1,h2,h3,h4⟩:=zfb f h
      refine⟨t+1,by simpa using h1,by rw [← Nat.succ_add_eq_add_succ]; exact h2,?_,?_⟩
      · rw [if_pos hj,List.take_succ_cons]; exact h3.cons y
      · rw [if_pos hj,if_pos (by simp [hj]),h4]
        congr 1
        funext u
        rw [Nat.succ_add_eq_add_succ]
    · rename_i hj
      simp only [Bool.not_eq_true] at hj
      rw [if_neg (by simp [hj])]
      cases i with
      | zero=>
        simp at h; subst h
        refine⟨0,rfl,hj,by simp,?_⟩
        rw [if_pos (by simp)]
        simp only [List.eraseIdx_zero,List.tail_cons,Nat.add_zero]
        have key:∀ (r:List Ent) (k:Nat),j<k→zH f r k=zH (fun u=>f u||u == j) r k:=by
          intro r
          induction r with
          | nil=>intro k _; rfl
          | cons y r ih=>
            intro k hk
            unfold zH
            have:(k == j)=false:=by simp; omega
            simp only [this,Bool.or_false]
            rw [ih (k+1) (by omega)]
        exact key r (j+1) (by omega)
      | succ i=>
        obtain⟨t,h1,h2,h3,h4⟩:=zfb f (es:=r) (j:=j+1) (i:=i) (by simpa using h)
        refine⟨t+1,by simpa using h1,by rw [← Nat.succ_add_eq_add_succ]; exact h2,?_,?_⟩
        · rw [List.take_succ_cons,List.take_succ_cons]; exact h3.cons_cons y
        · have hne:(j == j+(t+1))=false:=by simp
          rw [if_neg (by simp [hj,hne])]
          rw [List.eraseIdx_cons_succ,h4]
          congr 2
          funext u
          rw [Nat.succ_add_eq_add_succ]
theorem zbK {f g:Nat→Bool}:∀ {es:List Ent} {j:Nat},(∀ t,t<es.length→f (j+t)=g (j+t))→zH f es j=zH g es j
  | [],j,_=>rfl
  | x::r,j,h=>by
    unfold zH
    have h0:=h 0 (by simp)
    simp only [Nat.add_zero] at h0
    have ih:zH f r (j+1)=zH g r (j+1):=zbK fun t ht=>by
      have:=h (t+1) (by simpa using ht)
      rwa [← Nat.succ_add_eq_add_succ] at this
    rw [h0,ih]
theorem zgY:∀ (xs:List Ent) (j:Nat),delE xs j=xs.eraseIdx j
  | [],j=>rfl
  | x::xs,0=>rfl
  | x::xs,j+1=>by simp [delE,zgY xs j]
theorem born_inj {es:List Ent}{c:Nat}(hb:Born es c){i j:Nat}{x y:Ent}(hx:es[i]?=some x)(hy:es[j]?=some y)(h:x.2.2=y.2.2):i=j:=by
  have hp:=hb.1
  rw [List.pairwise_map] at hp
  obtain⟨hi,rfl⟩:=List.getElem?_eq_some_iff.1 hx
  obtain⟨hj,rfl⟩:=List.getElem?_eq_some_iff.1 hy
  have:=List.pairwise_iff_getElem.1 hp
  rcases Nat.lt_trichotomy i j with h1 | h1 | h1
  · have:=this i j hi hj h1; omega
  · exact h1
  · have:=this j i hj hi h1; omega
theorem zn9 {l:List MapEntry}(hn:(l.map (·.born)).Nodup){i j:Nat}{x y:MapEntry}(hx:l[i]?=some x)(hy:l[j]?=some y)(h:x.born=y.born):i=j:=by
  obtain⟨hi,rfl⟩:=List.getElem?_eq_some_iff.1 hx
  obtain⟨hj,rfl⟩:=List.getElem?_eq_some_iff.1 hy
  rw [List.Nodup,List.pairwise_map] at hn
  have:=List.pairwise_iff_getElem.1 hn
  rcases Nat.lt_trichotomy i j with h1 | h1 | h1
  · exact absurd h (this i j hi hj h1)
  · exact h1
  · exact absurd h.symm (this j i hj hi h1)
noncomputable def Gh (ι ι':Io):Prop:=∀ b x,ι b=some x→∃ y,ι' b=some y∧y.r=x.r∧y.cap=x.cap
mutual
theorem VR.gh {ι ι':Io}(hs:Gh ι ι'):∀ (t:T) {v:Value},VR ι t v→VR ι' t v
  | .bool b,v,h=>by simpa only [VR] using h
  | .int k n,v,h=>by simpa only [VR] using h
  | .str s,v,h=>by simpa only [VR] using h
  | .nptr,v,h=>by simpa only [VR] using h
  | .ptr b o,v,h=>by simp only [VR] at *; obtain⟨x,h1,h2⟩:=h; obtain⟨y,g1,g2,_⟩:=hs _ _ h1; exact⟨y,g1,by rw [g2]; exact h2⟩
  | .nslice,v,h=>by simpa only [VR] using h
  | .slice b o n c,v,h=>by simp only [VR] at *; obtain⟨x,h1,h2⟩:=h; obtain⟨y,g1,g2,_⟩:=hs _ _ h1; exact⟨y,g1,by rw [g2]; exact h2⟩
  | .own b n,v,h=>by simp only [VR] at *; obtain⟨x,h1,h2⟩:=h; obtain⟨y,g1,g2,g3⟩:=hs _ _ h1; exact⟨y,g1,by rw [g2,g3]; exact h2⟩
  | .sub b o n,v,h=>by simp only [VR] at *; obtain⟨x,c,h1,h2⟩:=h; obtain⟨y,g1,g2,_⟩:=hs _ _ h1; exact⟨y,c,g1,by rw [g2]; exact h2⟩
  | .empty,v,h=>by simpa only [VR] using h
  | .nmap,v,h=>by simpa only [VR] using h
  | .map b,v,h=>by simp only [VR] at *; obtain⟨x,h1,h2⟩:=h; obtain⟨y,g1,g2,_⟩:=hs _ _ h1; exact⟨y,g1,by rw [g2]; exact h2⟩
  | .func f a b,v,h=>by
    simp only [VR] at *
    split at h
    · obtain⟨h1,h2,x,h3,h4⟩:=h; obtain⟨y,g1,g2,_⟩:=hs _ _ h3; exact⟨h1,h2,y,g1,by rw [g2]; exact h4⟩
    · obtain⟨c,d,h1,h2,h3⟩:=h; exact⟨c,d,h1,VL.gh hs a h2,VL.gh hs b h3⟩
  | .nfunc,v,h=>by simpa only [VR] using h
  | .niface,v,h=>by simpa only [VR] using h
  | .agg cs,v,h=>by simp only [VR] at *; obtain⟨vs,h1,h2⟩:=h; exact⟨vs,h1,VL.gh hs cs h2⟩
  | .tup cs,v,h=>by simp only [VR] at *; obtain⟨vs,h1,h2⟩:=h; exact⟨vs,h1,VL.gh hs cs h2⟩
  | .any,v,h=>by simp only [VR]
theorem VL.gh {ι ι':Io}(hs:Gh ι ι'):∀ (ts:List T) {vs:List Value},VL ι ts vs→VL ι' ts vs
  | [],vs,h=>by simpa only [VL] using h
  | c::cs,vs,h=>by
    simp only [VL] at *
    obtain⟨v,rest,h1,h2,h3⟩:=h
    exact⟨v,rest,h1,VR.gh hs c h2,VL.gh hs cs h3⟩
end
mutual
/-- What a value stood for is known: then what it stands for later is known there. -/
theorem VR.back {ι ι':Io}(hs:Gh ι ι'):∀ (t:T) {v0 v:Value},VR ι t v0→VR ι' t v→VR ι t v
  | .bool b,v0,v,h0,h=>by simpa only [VR] using h
  | .int k n,v0,v,h0,h=>by simpa only [VR] using h
  | .str s,v0,v,h0,h=>by simpa only [VR] using h
  | .nptr,v0,v,h0,h=>by simpa only [VR] using h
  | .ptr b o,v0,v,h0,h=>by
    simp only [VR] at *; obtain⟨x,h1,_⟩:=h0; obtain⟨x',h3,h4⟩:=h; obtain⟨y,g1,g2,_⟩:=hs _ _ h1; rw [g1] at h3; cases h3; exact⟨x,h1,by rw [← g2]; exact h4⟩
  | .nslice,v0,v,h0,h=>by simpa only [VR] using h
  | .slice b o n c,v0,v,h0,h=>by
    simp only [VR] at *; obtain⟨x,h1,_⟩:=h0; obtain⟨x',h3,h4⟩:=h; obtain⟨y,g1,g2,_⟩:=hs _ _ h1; rw [g1] at h3; cases h3; exact⟨x,h1,by rw [← g2]; exact h4⟩
  | .own b n,v0,v,h0,h=>by
    simp only [VR] at *; obtain⟨x,h1,_⟩:=h0; obtain⟨x',h3,h4⟩:=h; obtain⟨y,g1,g2,g3⟩:=hs _ _ h1; rw [g1] at h3; cases h3; exact⟨x,h1,by rw [← g2,← g3]; exact h4⟩
  | .sub b o n,v0,v,h0,h=>by
    simp only [VR] at *; obtain⟨x,c,h1,_⟩:=h0; obtain⟨x',c',h3,h4⟩:=h; obtain⟨y,g1,g2,_⟩:=hs _ _ h1; rw [g1] at h3; cases h3; exact⟨x,c',h1,by rw [← g2]; exact h4⟩
  | .empty,v0,v,h0,h=>by simpa only [VR] using h
  | .nmap,v0,v,h0,h=>by simpa only [VR] using h
  | .map b,v0,v,h0,h=>by
    simp only [VR] at *; obtain⟨x,h1,_⟩:=h0; obtain⟨x',h3,h4⟩:=h; obtain⟨y,g1,g2,_⟩:=hs _ _ h1; rw [g1] at h3; cases h3; exact⟨x,h1,by rw [← g2]; exact h4⟩
  | .func f a b,v0,v,h0,h=>by
    cases f <;> simp only [VR] at h0 h ⊢ <;> first
      | (obtain⟨h1,h2,x',h3,h4⟩:=h; obtain⟨_,_,x,h5,_⟩:=h0; obtain⟨y,g1,g2,_⟩:=hs _ _ h5; rw [g1] at h3; cases h3; exact⟨h1,h2,x,h5,by rw [← g2]; exact h4⟩)
      | (obtain⟨c,d,h1,h2,h3⟩:=h; obtain⟨c0,d0,_,h5,h6⟩:=h0; exact⟨c,d,h1,VL.back hs a h5 h2,VL.back hs b h6 h3⟩)
  | .nfunc,v0,v,h0,h=>by simpa only [VR] using h
  | .niface,v0,v,h0,h=>by simpa only [VR] using h
  | .agg cs,v0,v,h0,h=>by simp only [VR] at *; obtain⟨vs,h1,h2⟩:=h; obtain⟨vs0,_,h4⟩:=h0; exact⟨vs,h1,VL.back hs cs h4 h2⟩
  | .tup cs,v0,v,h0,h=>by simp only [VR] at *; obtain⟨vs,h1,h2⟩:=h; obtain⟨vs0,_,h4⟩:=h0; exact⟨vs,h1,VL.back hs cs h4 h2⟩
  | .any,v0,v,h0,h=>by simp only [VR]
theorem VL.back {ι ι':Io}(hs:Gh ι ι'):∀ (ts:List T) {vs0 vs:List Value},VL ι ts vs0→VL ι' ts vs→VL ι ts vs
  | [],vs0,vs,h0,h=>by simpa only [VL] using h
  | c::cs,vs0,vs,h0,h=>by
    simp only [VL] at *
    obtain⟨v0,rest0,_,h2,h3⟩:=h0
    obtain⟨v,rest,h4,h5,h6⟩:=h
    exact⟨v,rest,h4,VR.back hs c h2 h5,VL.back hs cs h3 h6⟩
end
theorem EL.gh {ι ι':Io}(hs:Gh ι ι'):∀ {xs:List Ent} {l:List MapEntry},EL ι xs l→EL ι' xs l
  | [],l,h=>h
  | x::xs,l,⟨e,r,h1,h2,h3⟩=>⟨e,r,h1,⟨VR.gh hs _ h2.1,VR.gh hs _ h2.2.1,h2.2.2⟩,EL.gh hs h3⟩
theorem RE.gh {ι ι':Io}(hs:Gh ι ι')(re:RE ι m e er):RE ι' m e er:=⟨re.len,re.fit,fun i hi=>VR.gh hs _ (re.get i hi)⟩
theorem DL.gh {ι ι':Io}(hs:Gh ι ι'):∀ {d:List Nat} {l:List Deferred},DL ι d l→DL ι' d l
  | [],l,h=>h
  | b::ds,l,⟨y,r,h1,h2,h3⟩=>by
    obtain⟨y',g1,g2,_⟩:=hs _ _ h1
    exact⟨y',r,g1,by rw [g2]; exact h2,DL.gh hs h3⟩
theorem DL.same {ι ι':Io}(hs:Gh ι ι'):∀ {d d':List Nat} {l l':List Deferred},zeE d d'=true→DL ι d l→DL ι' d' l'→l'=l
  | [],[],l,l',_,h,h'=>by have h:l=[]:=h; have h':l'=[]:=h'; rw [h,h']
  | a::ds,b::ds',l,l',hsd,⟨y,r,h1,h2,h3⟩,⟨y',r',h1',h2',h3'⟩=>by
    simp only [zeE] at hsd
    split at hsd
    · rename_i hab
      obtain rfl:=Nat.eq_of_beq_eq_true hab
      obtain⟨z,g1,g2,_⟩:=hs _ _ h1
      rw [g1] at h1'; cases h1'
      rw [h2,h2',g2,DL.same hs hsd h3 h3']
    · cases hsd
  | [],_::_,_,_,hsd,_,_=>by simp [zeE] at hsd
  | _::_,[],_,_,hsd,_,_=>by simp [zeE] at hsd
theorem RO.gh {ι ι':Io}(hs:Gh ι ι'):∀ {b:Option Nat} {l:Option Nat},RO ι b l→RO ι' b l
  | none,l,h=>h
  | some b,l,⟨y,h1,h2⟩=>by
    obtain⟨y',g1,g2,_⟩:=hs _ _ h1
    exact⟨y',g1,by rw [g2]; exact h2⟩
theorem OR.gh {ι ι':Io}(hs:Gh ι ι'){x:Inf}:∀ {o:VO} {ob:Obj},amO (some o)=false→OR P ι x o ob→OR P ι' x o ob
  | .row cs ct tail,ob,_,⟨cur,h1,h2,h3,h4⟩=>⟨cur,h1,h2,VL.gh hs _ h3,h4⟩
  | .ro cs ct,ob,_,⟨cur,fr,h1,h2,h3⟩=>⟨cur,fr,h1,h2,VL.gh hs _ h3⟩
  | .map es clock,ob,_,⟨ents,h1,h2,h3⟩=>⟨ents,h1,EL.gh hs h2,h3⟩
  | .siter s pos,ob,_,h=>h
  | .miter mp since seen last,ob,_,⟨y,h1,h2⟩=>by
    obtain⟨y',g1,g2,_⟩:=hs _ _ h1
    exact⟨y',g1,by rw [g2]; exact h2⟩
  | .loop st pend dp n tm pa asg bd df,ob,_,⟨fn,tr,y,h1,h2,h3⟩=>by
    obtain⟨y',g1,g2,_⟩:=hs _ _ h1
    exact⟨fn,tr,y',g1,by rw [g2]; exact h2,h3.gh hs⟩
  | .defs true,ob,_,h=>h
  | .defs false,ob,_,h=>h
  | .amap es j del,ob,ha,_=>by simp [amO] at ha
  | .pick mp,ob,ha,_=>by simp [amO] at ha
theorem amV_get:∀ (q:Pa) {t:En (Option VO)},amV t=false→amO (En.get q t)=false:=by
  intro q
  induction q with
  | e=>
    intro t ht
    cases t with
    | leaf v=>exact ht
    | node l r=>
      have:∀ {t:En (Option VO)},amV t=false→amO t.lf=false:=by
        intro t
        induction t with
        | leaf v=>exact fun h=>h
        | node l r ihl _=>
          intro h
          refine ihl ?_
          have h:(match amV l with | true=>true | false=>amV r)=false:=h
          split at h
          · cases h
          · assumption
      exact this (t:=.node l r) ht
  | o q ih=>
    intro t ht
    cases t with
    | leaf v=>exact ht
    | node l r=>
      have ht:(match amV l with | true=>true | false=>amV r)=false:=ht
      rw [En.get_o]
      split at ht
      · cases ht
      · rename_i h; exact ih h
  | i q ih=>
    intro t ht
    cases t with
    | leaf v=>exact ht
    | node l r=>
      have ht:(match amV l with | true=>true | false=>amV r)=false:=ht
      rw [En.get_i]
      split at ht
      · cases ht
      · exact ih ht
theorem amV_at (ha:amV s.V=false){b:Nat}{o:VO}(hb:s.at b=some o):amO (some o)=false:=by
  unfold S.at at hb
  rw [zA] at hb
  split at hb
  · rw [← hb]; exact amV_get _ ha
  · cases hb
theorem zhr:∀ {n:Nat},zfM m e e' n=true→∀ x,x<n→seeE m e x=.any∨seeE m e x=seeE m e' x
  | 0,_,x,hx=>by omega
  | n+1,h,x,hx=>by
    have h:(match seeE m e n with | .any=>zfM m e e' n | t=>match eqF t (seeE m e' n) with | true=>zfM m e e' n | false=>false)=true:=h
    have key:(seeE m e n=.any∨seeE m e n=seeE m e' n)∧zfM m e e' n=true:=by
      split at h
      · rename_i ha; exact⟨.inl ha,h⟩
      · split at h
        · rename_i hq; exact⟨.inr (ziS hq),h⟩
        · cases h
    rcases Nat.lt_or_ge x n with h1 | h1
    · exact zhr key.2 x h1
    · obtain rfl:x=n:=by omega
      exact key.1
theorem ze7:∀ {ts:List Tmp} {e:E},RE ι m e er→RE ι m (forget m ts e) er
  | [],e,re=>re
  | t::ts,e,re=>by
    unfold forget
    rw [zA]
    split
    · rename_i ht
      rw [En.zac]
      refine ze7 ⟨re.len,re.fit,fun i hi=>?_⟩
      have hf:=re.fit
      rw [En.get_set_of (Nat.lt_of_lt_of_le hi hf) (Nat.lt_of_lt_of_le (zf.1 ht) hf)]
      split
      · simp only [VR]
      · exact re.get i hi
    · exact ze7 re
theorem zeF (hf:m.n≤2 ^ m.dp):∀ {ts:List Tmp} {e:E} (x:Nat),seeE m (forget m ts e) x=.any∨seeE m (forget m ts e) x=seeE m e x
  | [],e,x=>.inr rfl
  | t::ts,e,x=>by
    unfold forget
    rw [zA]
    split
    · rename_i ht
      rw [En.zac]
      rcases zeF hf (ts:=ts) (e:=En.set (Pa.of m.dp t) T.any e) x with h | h
      · exact .inl h
      · rw [h]
        unfold seeE
        rw [zA,zA]
        split
        · rename_i hx
          rw [En.get_set_of (Nat.lt_of_lt_of_le (zf.1 hx) hf) (Nat.lt_of_lt_of_le (zf.1 ht) hf)]
          split
          · exact .inl rfl
          · exact .inr rfl
        · exact .inr rfl
    · exact zeF hf x
theorem anys_VL (n:Nat):∀ us:List Value,us.length=n→VL ι (rep n [.any]) us:=by
  induction n with
  | zero=>intro us h; cases us with | nil=>simp [rep,VL] | cons _ _=>simp at h
  | succ n ih=>
    intro us h
    cases us with
    | nil=>simp at h
    | cons u us=>
      simp only [rep,List.cons_append,List.nil_append,VL]
      exact⟨u,us,rfl,by simp [VR],ih us (by simpa using h)⟩
theorem zfE {g:FuncId}{vs:List Value}(hx:∀ w:World,w.heap=h→∃ v w',(callFunc g vs.toArray).run P w=.ok (.value v) w'∧Eng.Rest w w'∧Post P ι s h t s' v w'.heap):zgJ P (.func (.func g) #[] #[]) vs h (Post P ι s h t s'):=by
  intro er f xs ats ty hf hxs
  refine zih rfl fun W hW=>?_
  obtain⟨v,W',h1,h2,h3⟩:=hx W hW
  have hargs:xs.map (ev er)=vs.toArray:=by apply Array.toList_inj.1; simpa using hxs
  refine⟨v,W',?_,h2,h3⟩
  simp only [execOp,resolve,hf,Deferred.ofValue,invoke,Sem.run_bind,Sem.run_pure,Result.andThen_ok,hargs]
  simpa using h1
theorem zoq (ok:Ok P p){g:FuncId}{x:X}(hq:ExtQ P g x)(hne:x≠.no){first caps args:List T}{c dd:Array Value}{vs:List Value}(hd:zjN p s x first caps args=.ok (t,s'))(h1:VL ι first c.toList)(h2:VL ι caps dd.toList)(hv:VL ι args vs)(H:Sim P ι s h) :
    zgJ P (.func (.func g) c dd) vs h (Post P ι s h t s'):=by
  unfold zjN at hd
  split at hd
  · simp only [VL,Array.toList_eq_nil_iff] at h1 h2
    subst h1 h2
    split at hd
    · rename_i r hr
      cases hd
      unfold extT at hr
      split at hr
      · rename_i el n
        split at hr
        · rename_i hc
          cases hr
          simp only [Bool.and_eq_true] at hc
          obtain⟨ei,hei,hsz,hu8,te⟩:=zcf ok hc.1
          have hn:=zf.1 hc.2
          obtain⟨ps,tt,htt,hrun⟩:=hq
          simp only [VL,VR,Int.ofNat_eq_natCast] at hv
          obtain⟨_,_,rfl,rfl,rfl⟩:=hv
          refine zfE fun w hw=>?_
          obtain⟨cs,q1,q2,q3⟩:=Lib.run_makeNoZero w ps tt el htt n (by omega)
          refine⟨.slice (some ⟨w.heap.size,0,none⟩) n cs.size,w.drew.drew.alloc (.cells cs el),?_,⟨rfl,rfl,rfl⟩,?_⟩
          · rw [hrun]
            have:(#[Value.int .i64 (n:Int)]:Array Value)=[Value.int .i64 (n:Int)].toArray:=rfl
            rw [← this,q1]
            rfl
          · subst hw
            have:=zmm (zs:=cs.toList.drop n) (us:=cs.toList.take n) (cap:=cs.size) (n:=n) H te (by omega) (anys_VL n (cs.toList.take n) (by simp; omega)) (by simp [hsz]; omega) (q3 (by simp only [maxLen]; omega)) q2
            rw [List.take_append_drop] at this
            exact this
        · cases hr
      · rename_i l cc
        cases hr
        simp only [VL,VR,Int.ofNat_eq_natCast] at hv
        obtain⟨_,_,rfl,rfl,_,_,rfl,rfl,rfl⟩:=hv
        refine zfE fun w hw=>⟨_,w,?_,Eng.Rest.refl w,by rw [hw]; exact Post.pure H (by simp only [VR]; rfl)⟩
        have hq:∀ (args:Array Value) (w:World),_:=hq
        have:=Lib.run_countString (P:=P) ⟨⟨l⟩⟩ (cc:Int) w
        rw [hq]
        have e:(#[Value.string ⟨⟨l⟩⟩,Value.int .u8 (cc:Int)]:Array Value)=[Value.string ⟨⟨l⟩⟩,Value.int .u8 (cc:Int)].toArray:=rfl
        rw [← e,this]
        rfl
      · rename_i l cc
        cases hr
        simp only [VL,VR,Int.ofNat_eq_natCast] at hv
        obtain⟨_,_,rfl,rfl,_,_,rfl,rfl,rfl⟩:=hv
        refine zfE fun w hw=>⟨_,w,?_,Eng.Rest.refl w,by rw [hw]; exact Post.pure H (by simp only [VR]; rfl)⟩
        have hq:∀ (args:Array Value) (w:World),_:=hq
        have:=Lib.run_indexByteString (P:=P) ⟨⟨l⟩⟩ (cc:Int) w
        rw [hq]
        have e:(#[Value.string ⟨⟨l⟩⟩,Value.int .u8 (cc:Int)]:Array Value)=[Value.string ⟨⟨l⟩⟩,Value.int .u8 (cc:Int)].toArray:=rfl
        rw [← e,this]
        rfl
      · cases hr
        have hq:∀ h:Heap,zb P g #[] h (fun v h'=>v=.bool true∧Ext h h'):=hq
        simp only [VL] at hv
        subst hv
        refine zc3 ((hq h).mono ?_)
        rintro v h' ⟨rfl,x⟩
        obtain⟨g1,g2⟩:=H.grown x.size x.old
        exact⟨ι,g2,g1,by simp only [VR]⟩
      · rename_i k b
        have hq:CopyQ P g k:=hq
        simp only [VL,VR] at hv
        obtain⟨_,_,rfl,⟨y,hy,rfl⟩,rfl⟩:=hv
        split at hr
        · rename_i cc d ct hb
          obtain⟨cur,hg,hle,hvl,htl⟩:=zdb H hb hy
          have hsz:=htl.1 rfl
          have hcur:cur.toList.take 2=cur.toList:=List.take_of_length_le (by simp at hsz ⊢; omega)
          have hvl:VL ι [cc,d] cur.toList:=by rw [← hcur]; exact hvl
          simp only [VL] at hvl
          obtain⟨cv,_,hcu,hcc,dv,_,rfl,hdv,rfl⟩:=hvl
          have hcu:cur=#[cv,dv]:=by apply Array.toList_inj.1; rw [hcu]
          subst hcu
          split at hr
          · rename_i hk
            obtain rfl:=Nat.eq_of_beq_eq_true hk
            cases hr
            simp only [VR] at hcc
            subst hcc
            have hc:=hq h y.r _ dv hg (.inl rfl)
            refine zc3 (hc.mono ?_)
            rintro v h' ⟨rfl,rfl⟩
            exact zaV H hb hy (o:=.row [.ptr b 0,d] _ false) (ob:=.cells #[.pointer (some ⟨y.r,0,none⟩),dv] _ (0,0)) ⟨_,rfl,by simp,by simp only [List.length_cons,List.length_nil,VL,VR]; exact⟨_,_,rfl,⟨y,hy,rfl⟩,_,_,rfl,hdv,rfl⟩,fun _=>rfl,fun hh=>(by cases hh)⟩ zgP
          · rename_i b' hk
            obtain rfl:=Nat.eq_of_beq_eq_true hk
            split at hr
            · rename_i hbb
              obtain rfl:=Nat.eq_of_beq_eq_true hbb
              cases hr
              simp only [VR] at hcc
              obtain⟨y',hy',rfl⟩:=hcc
              rw [hy] at hy'; cases hy'
              have hc:=hq h y.r _ dv hg (.inr rfl)
              refine zc3 (hc.mono ?_)
              rintro v h' ⟨rfl,rfl⟩
              have:h.setIfInBounds y.r (.cells #[.pointer (some ⟨y.r,0,none⟩),dv] ct (0,0))=h:=by
                apply Array.ext_getElem?
                intro j
                rw [Array.getElem?_setIfInBounds]
                split
                · rename_i hj
                  subst hj
                  split
                  · exact hg.symm
                  · rename_i hlt; exact absurd (zN hg) hlt
                · rfl
              rw [this]
              exact Post.pure H zgP
            · cases hr
          · cases hr
        · cases hr
      · cases hr
    · cases hd
  · cases hd
theorem zkF (ok:Ok P p)(lb:zb9 P p)(sd:Snd P self):zdG P (zc2 p self):=by
  intro f args s t s' hd ι h v vs hf hv H
  unfold zc2 at hd
  split at hd
  · rename_i g first caps
    simp only [VR] at hf
    obtain⟨c,dd,rfl,h1,h2⟩:=hf
    unfold callF at hd
    cases hx:p.ext g with
    | no=>
    rw [hx] at hd
    refine zc3 ?_
    have:=ziT ok lb sd hd ((h1.append hv).append h2) H
    have he:(c.toList++vs++dd.toList).toArray=c++vs.toArray++dd:=by apply Array.toList_inj.1; simp
    rw [he] at this
    exact this
    | _=>
      rw [hx] at hd
      have hq:=ok.ext g
      rw [hx] at hq
      exact zoq ok hq (by simp) hd h1 h2 hv H
  · rename_i l
    simp only [VR] at hf
    obtain⟨_,_,x,hx,rfl⟩:=hf
    exact zk9 sd hd hx hv H
  · cases hd
theorem zf1 {a:Option Tmp}{r mp:Nat}{b:Code}{all:List Ent}:∀ {rest:List Ent} {j0:Nat} {l:List Ent} {z:Bool},rounds p self m ro b e d s r mp a all rest j0=some (l,z) →
    ∃ D Y:Nat→Bool,(∀ i k v w,rest[i]?=some (k,v,w)→zbP p self m ro b e d s r mp all (j0+i) k v a false=some (D (j0+i),Y (j0+i))∧∃ y',zbP p self m ro b e d s r mp all (j0+i) k v a true=some (D (j0+i),y')∧(y'=true∨a=none)) ∧
      l=zH D rest j0∧(z=true↔∃ i,i<rest.length∧Y (j0+i)=true)
  | [],j0,l,z,h=>by
    simp only [rounds,Option.some.injEq,Prod.mk.injEq] at h
    obtain⟨rfl,rfl⟩:=h
    exact⟨fun _=>false,fun _=>false,by simp,rfl,by simp⟩
  | (k,v,w)::rest,j0,l,z,h=>by
    simp only [rounds] at h
    split at h
    · rename_i del y h1
      split at h
      · rename_i del' y' h2
        split at h
        · rename_i l' z' hc hr
          simp only [Option.some.injEq,Prod.mk.injEq] at h
          obtain⟨rfl,rfl⟩:=h
          simp only [Bool.and_eq_true,beq_iff_eq,Bool.or_eq_true,Option.isNone_iff_eq_none] at hc
          obtain⟨rfl,hy⟩:=hc
          obtain⟨D,Y,g1,g2,g3⟩:=zf1 hr
          obtain⟨D',hD0,hD1⟩:∃ D':Nat→Bool,D' j0=del∧∀ t,t≠j0→D' t=D t:=⟨fun t=>if t=j0 then del else D t,by simp,fun t ht=>by simp [ht]⟩
          obtain⟨Y',hY0,hY1⟩:∃ Y':Nat→Bool,Y' j0=y∧∀ t,t≠j0→Y' t=Y t:=⟨fun t=>if t=j0 then y else Y t,by simp,fun t ht=>by simp [ht]⟩
          refine⟨D',Y',?_,?_,?_⟩
          · intro i k' v' w' hi
            cases i with
            | zero=>
              simp only [List.getElem?_cons_zero,Option.some.injEq,Prod.mk.injEq] at hi
              obtain⟨rfl,rfl,rfl⟩:=hi
              rw [Nat.add_zero,hD0,hY0]
              exact⟨h1,y',h2,hy⟩
            | succ i=>
              have:=g1 i k' v' w' (by simpa using hi)
              rw [Nat.succ_add_eq_add_succ] at this
              rw [hD1 _ (by omega),hY1 _ (by omega)]
              exact this
          · have e1:zH D' rest (j0+1)=zH D rest (j0+1):=zbK fun t ht=>hD1 _ (by omega)
            unfold zH
            rw [hD0,e1,g2]
            cases del <;> rfl
          · constructor
            · intro hz
              rw [Bool.or_eq_true] at hz
              rcases hz with hz | hz
              · exact⟨0,by simp,by rw [Nat.add_zero,hY0]; exact hz⟩
              · obtain⟨i,hi,hY⟩:=g3.1 hz
                refine⟨i+1,by simp; omega,?_⟩
                rw [hY1 _ (by omega),← Nat.succ_add_eq_add_succ]; exact hY
            · rintro⟨i,hi,hY⟩
              rw [Bool.or_eq_true]
              cases i with
              | zero=>left; rw [Nat.add_zero,hY0] at hY; exact hY
              | succ i=>
                right
                refine g3.2 ⟨i,by simpa using hi,?_⟩
                rw [hY1 _ (by omega)] at hY
                rw [Nat.succ_add_eq_add_succ]; exact hY
        · cases h
      · cases h
    · cases h
theorem zi3 {a:Option Tmp}{r mp j:Nat}{b:Code}{es:List Ent}{k v:T}{x del y:Bool}(h:zbP p self m ro b e d s r mp es j k v a x=some (del,y)) :
    ∃ e' d' s' es2 j2,zbF p self m ro (.tup [.bool true,k,v]) b (zcI m a x e) d (setQ (setQ ⟨s.V,s.nx,1000000000⟩ mp (.amap es j false)) r (.pick mp))=.ok ⟨.normal,e',d',s'⟩∧s.nx≤s'.low∧zfM m e e' m.n=true∧zeE d d'=true ∧
      s'.at mp=some (.amap es2 j2 del)∧zfo m a e'=some y:=by
  unfold zbP at h
  split at h
  · rename_i e' d' s' hr
    split at h
    · rename_i es2 j2 del' y' hc hmp hacc
      cases h
      simp only [Bool.and_eq_true] at hc
      exact⟨e',d',s',es2,j2,hr,zf.1 hc.1.1,hc.1.2,hc.2,hmp,hacc⟩
    · cases h
  · cases h
structure MI (P:Program)(ι:Io)(h0:Heap)(m:Fm)(es:List Ent)(clock since:Nat)(ym yr:Inf)(D Y:Nat→Bool)(a:Option Tmp)(x0:Bool)(eb:E)(V:Nat→Bool)(er:Env)(h:Heap):Prop where
  size:h0.size≤h.size
  old:∀ q,q<h0.size→q≠ym.r→q≠yr.r→h[q]?=h0[q]?
  it:∃ seen lastv,h[yr.r]?=some (.mapIter (some ym.r) since seen lastv)∧since≤lastv∧∀ j x,es[j]?=some x→seen.contains x.2.2=V j
  mp:∃ ents,h[ym.r]?=some (.map ents clock)∧EL ι (zH (fun j=>V j&&D j) es 0) ents.toList
  re:∃ c:Bool,(c=true↔∃ j,j<es.length∧V j=true∧Y j=true)∧RE ι m (zcI m a (x0||c) eb) er
theorem zjB {ιs:Io}{s2:S}{h0:Heap}{mp r:Nat}{ym yr x1:Inf}{es:List Ent}{clock:Nat}{since last:Nat}(H:Sim P ι s h0)(ha:amV s.V=false)(hmp:s.at mp=some (.map es clock))(hr:s.at r=some (.miter mp since [] last))(hym:ι mp=some ym)(hyr:ι r=some yr)
    (hgh:Gh ι ιs) (hιs:∀ b,b≠mp→ιs b=ι b) (hx1:ιs mp=some x1) (hxr:x1.r=ym.r) (hnx:s2.nx=s.nx) (hat:∀ b,b≠mp→b≠r→s2.at b=s.at b)
    (hsz:h0.size≤h.size) (hold:∀ q,q<h0.size→q≠ym.r→q≠yr.r→h[q]?=h0[q]?)
    (ho1:∀ o,s2.at mp=some o→∃ ob,h[ym.r]?=some ob∧OR P ιs x1 o ob) (ho2:∀ o,s2.at r=some o→∃ ob,h[yr.r]?=some ob∧OR P ιs yr o ob) (hmr:mp≠r):Sim P ιs s2 h:=by
  have same:∀ b x,ιs b=some x→∃ y,ι b=some y∧y.r=x.r:=by
    intro b x hx
    by_cases hb:b=mp
    · subst hb
      rw [hx1] at hx; cases hx
      exact⟨ym,hym,hxr.symm⟩
    · rw [hιs b hb] at hx; exact⟨x,hx,rfl⟩
  have live:∀ b,s2.at b≠none→s.at b≠none:=by
    intro b hb
    by_cases h1:b=mp
    · subst h1; rw [hmp]; simp
    · by_cases h2:b=r
      · subst h2; rw [hr]; simp
      · rw [← hat b h1 h2]; exact hb
  refine⟨fun b x hx=>?_,fun b c x y hb hc hx hy hxy=>?_,fun b o hb=>?_⟩
  · obtain⟨y,h1,h2⟩:=same b x hx
    have:=H.fresh b y h1
    rw [hnx,← h2]
    exact⟨this.1,by omega⟩
  · obtain⟨x',h1,h2⟩:=same b x hx
    obtain⟨y',h3,h4⟩:=same c y hy
    exact H.inj b c x' y' (live b hb) (live c hc) h1 h3 (by rw [h2,h4,hxy])
  · by_cases h1:b=mp
    · subst h1
      obtain⟨ob,g1,g2⟩:=ho1 o hb
      exact⟨x1,ob,hx1,by rw [hxr]; exact g1,g2⟩
    · by_cases h2:b=r
      · subst h2
        obtain⟨ob,g1,g2⟩:=ho2 o hb
        exact⟨yr,ob,by rw [hιs b h1]; exact hyr,g1,g2⟩
      · rw [hat b h1 h2] at hb
        obtain⟨x,ob,g1,g2,g3⟩:=H.obj b o hb
        refine⟨x,ob,by rw [hιs b h1]; exact g1,?_,OR.gh hgh (amV_at ha hb) g3⟩
        rw [hold x.r (H.fresh b x g1).2 ?_ ?_]
        · exact g2
        · intro hxm
          exact h1 (H.inj b mp x ym (by rw [hb]; simp) (by rw [hmp]; simp) g1 hym hxm)
        · intro hxm
          exact h2 (H.inj b r x yr (by rw [hb]; simp) (by rw [hr]; simp) g1 hyr hxm)
theorem EL.get' {xs:List Ent}{l:List MapEntry}{i:Nat}{e:MapEntry}(H:EL ι xs l)(he:l[i]?=some e):∃ x,xs[i]?=some x∧ER ι x e:=by
  have hi:i<xs.length:=by rw [← H.length]; exact (List.getElem?_eq_some_iff.1 he).1
  obtain⟨e',h1,h2⟩:=H.get (List.getElem?_eq_getElem hi)
  rw [he] at h1; cases h1
  exact⟨_,List.getElem?_eq_getElem hi,h2⟩
theorem ziR {f:Nat→Bool}:∀ {es:List Ent} {j t:Nat} {x:Ent},es[t]?=some x→f (j+t)=false→x∈zH f es j
  | [],j,t,x,h,_=>by simp at h
  | y::r,j,0,x,h,hf=>by
    simp at h; subst h
    simp only [Nat.add_zero] at hf
    unfold zH
    rw [if_neg (by simp [hf])]
    simp
  | y::r,j,t+1,x,h,hf=>by
    have:=ziR (es:=r) (j:=j+1) (t:=t) (x:=x) (by simpa using h) (by rw [Nat.succ_add_eq_add_succ]; exact hf)
    unfold zH
    split
    · exact this
    · exact List.mem_cons_of_mem _ this
theorem Born.sub {es es':List Ent}{c:Nat}(hb:Born es c)(hs:es'.Sublist es):Born es' c:=⟨List.Pairwise.sublist (hs.map _) hb.1,fun x hx=>hb.2 x (hs.subset hx)⟩
noncomputable def itS (h:Heap)(r:Nat):Array Nat:=match h[r]? with | some (.mapIter _ _ s _)=>s | _=>#[]
theorem zc1 (hf:m.n≤2 ^ m.dp){a:Option Tmp}{v:Bool}{eb:E}{x:Nat}(hx:x<m.n)(ha:∀ t,a=some t→t<m.n):En.get (Pa.of m.dp x) (zcI m a v eb)=if a=some x then .bool v else En.get (Pa.of m.dp x) eb:=by
  cases a with
  | none=>simp [zcI]
  | some t=>
    simp only [zcI,En.zac]
    rw [En.get_set_of (Nat.lt_of_lt_of_le hx hf) (Nat.lt_of_lt_of_le (ha t rfl) hf)]
    by_cases h:x=t
    · subst h; simp
    · rw [if_neg h,if_neg (by simp; exact fun h'=>h h'.symm)]
theorem zha {x:Nat}(hx:x<m.n)(e:E):seeE m e x=En.get (Pa.of m.dp x) e:=by
  unfold seeE
  rw [zA,if_pos (zf.2 hx)]
theorem accOf_lt {a:Option Tmp}{b:Code}(h:zaS m e b=some a):∀ t,a=some t→t<m.n:=by
  intro t ht
  subst ht
  unfold zaS at h
  split at h
  · cases h
  · rename_i t' hf
    cases h
    have:t∈(asgs b).filter (isBool m e):=by rw [hf]; simp
    have hb:=(List.mem_filter.1 this).2
    unfold isBool at hb
    split at hb
    · rw [zA] at hb
      split at hb
      · rename_i hh; exact zf.1 hh
      · cases hb
    · cases hb
  · cases h
theorem zg4 {a:Option Tmp}(ha:∀ t,a=some t→t<m.n){y:Bool}(h:zfo m a e=some y):∀ t,a=some t→seeE m e t=.bool y:=by
  intro t ht
  subst ht
  unfold zfo at h
  simp only at h
  split at h
  · rename_i v hv; cases h; exact hv
  · cases h
theorem zl2 (s:S)(b c:Nat)(o:VO):(setQ s b o).at c=if b≤16383∧c=b then some o else s.at c:=zP s b c (some o) s.nx s.low
theorem zoA (ok:Ok P p)(lb:zb9 P p)(sd:Snd P self){b:Code}{r mp:Nat}{es:List Ent}{clock:Nat}{q:Tmp}{since last:Nat}(hn:zbQ b=some q)(hq:seeE m e q=.ptr r 0)(hr:s.at r=some (.miter mp since [] last))(hmp:s.at mp=some (.map es clock))
    (hd:zhz p self m ro b e d s q r mp since last es clock=.ok o) (re:RE ι m e er) (H:Sim P ι s h) (D:DL ι d dr) (R:RO ι ro l):WP l P (.loop b) (CP P ι s h m o) er dr h:=by
  have hcf:=zkF ok lb sd
  unfold zhz at hd
  split at hd
  case h_2=>cases hd
  rename_i a hacc
  have halt:=accOf_lt hacc
  split at hd
  case h_2=>cases hd
  rename_i x0 pb po hx0 hqb hchk
  simp only [Bool.and_eq_true,Bool.not_eq_true'] at hchk
  obtain⟨⟨⟨⟨ham,hsl⟩,hsc⟩,hall⟩,hfree⟩:=hchk
  have hsl:=zf.1 hsl
  have hsc:=zf.1 hsc
  split at hd
  case h_2=>cases hd
  rename_i l' z hrounds
  obtain⟨DD,YY,hround,hl',hz⟩:=zf1 hrounds
  simp only [Nat.zero_add] at hround hz
  -- the frame
  have hfit:=re.fit
  generalize heb:forget m (dsts b) e=eb at *
  have reb:RE ι m eb er:=by rw [← heb]; exact ze7 re
  have hqe:seeE m eb q=.ptr r 0:=by
    rcases zeF hfit (m:=m) (ts:=dsts b) (e:=e) q with h1 | h1
    · rw [heb,hqb] at h1; cases h1
    · rw [← heb,h1,hq]
  have hqn:q<m.n:=by
    rcases Nat.lt_or_ge q m.n with h1 | h1
    · exact h1
    · unfold seeE at hqe
      rw [zA,if_neg (fun hh=>by have:=zf.1 hh; omega)] at hqe
      cases hqe
  have haq:a≠some q:=by
    intro haq
    subst haq
    unfold zmj at hfree
    have:Nat.beq q q=true:=Nat.beq_refl q
    simp only [this] at hfree
    cases hfree
  have hsq:∀ v,seeE m (zcI m a v eb) q=.ptr r 0:=by
    intro v
    rw [zha hqn,zc1 hfit hqn halt,if_neg haq,← zha hqn]
    exact hqe
  -- the map and its iterator
  obtain⟨yr,ob,hyr,hit0,hor⟩:=H.obj r _ hr
  obtain⟨ym,hym,hor⟩:=hor
  subst hor
  obtain⟨ents0,hm0,hel0,hborn⟩:=zb5 H hmp hym
  have hne:ym.r≠yr.r:=by
    intro hh
    rw [hh,hit0] at hm0
    cases hm0
  have hmr:mp≠r:=by
    intro hh
    rw [hh,hr] at hmp
    cases hmp
  have hmlt:ym.r<h.size:=(H.fresh mp ym hym).2
  have hrlt:yr.r<h.size:=(H.fresh r yr hyr).2
  have hr16:=at_le hr
  have hm16:=at_le hmp
  -- before the first round
  have M0:MI P ι h m es clock since ym yr DD YY a x0 eb (fun _=>false) er h:=by
    refine⟨Nat.le_refl _,fun _ _ _ _=>rfl,⟨#[],last,hit0,hsl,fun j x _=>by simp⟩,⟨ents0,hm0,?_⟩,⟨false,by simp,?_⟩⟩
    · have hff:(fun j=>(fun _:Nat=>false) j&&DD j)=fun _=>false:=by funext j; rfl
      have key:∀ (l:List Ent) (k:Nat),zH (fun _=>false) l k=l:=by
        intro l
        induction l with
        | nil=>intro k; rfl
        | cons x l ih=>intro k; unfold zH; rw [if_neg (by simp),ih]
      have:zH (fun j=>(fun _=>false) j&&DD j) es 0=es:=by rw [hff]; exact key es 0
      rw [this]; exact hel0
    · rw [Bool.or_false]
      refine⟨reb.len,reb.fit,fun x hx=>?_⟩
      rw [zc1 hfit hx halt]
      split
      · rename_i hax
        have hv:=zg4 halt hx0 x hax
        have:=zbA re x
        rw [hv] at this
        exact this
      · exact reb.get x hx
  have meas:∀ (h:Heap),∃ n,(es.filter fun x=>!(itS h yr.r).contains x.2.2).length=n:=fun h=>⟨_,rfl⟩
  refine zQ fun w hw=>wpIn_loop (fun a' w'=>∃ V,MI P ι h m es clock since ym yr DD YY a x0 eb V a'.tmps.toList w'.heap∧a'.defers=dr∧Eng.Rest w w') (fun _ w'=>(es.filter fun x=>!(itS w'.heap yr.r).contains x.2.2).length)
    ⟨fun _=>false,by subst hw; simpa using M0,rfl,Eng.Rest.refl w⟩ ?_
  rintro a' w' ⟨V,M,hdf,hrest⟩
  obtain⟨seen,lastv,hit,hsl',hseen⟩:=M.it
  obtain⟨ents,hme,hel⟩:=M.mp
  obtain⟨c,hc,rec⟩:=M.re
  have hkb:Born (zH (fun j=>V j&&DD j) es 0) clock:=hborn.sub (zdw _ _ _)
  have hnod:=zeH hel hkb
  have hold:∀ x∈ents.toList,x.born<since:=by
    intro x hx
    obtain⟨y,h1,h2⟩:=hel.mem hx
    have h3:=List.all_eq_true.1 hall y ((zdw _ _ _).subset h1)
    have h4:=zax.1 h3
    have h5:y.2.2=x.born:=h2.2.2
    omega
  have hW:WP l P b (fun x er2 dr2 h2=>match x with
      | .normal=>(∃ V',MI P ι h m es clock since ym yr DD YY a x0 eb V' er2 h2)∧dr2=dr∧(es.filter fun x=>!(itS h2 yr.r).contains x.2.2).length<(es.filter fun x=>!(itS w'.heap yr.r).contains x.2.2).length
      | x=>CP P ι s h m o x er2 dr2 h2) a'.tmps.toList dr w'.heap:=by
    refine headW_WP b hn fun ty=>?_
    unfold ze
    refine And.intro rfl fun w1 hw1=>?_
    have hx:ev a'.tmps.toList (.tmp q)=.pointer (some ⟨yr.r,0,none⟩):=by
      have h1:=zbA rec q
      rw [hsq] at h1
      simp only [VR] at h1
      obtain⟨y,h2,h3⟩:=h1
      rw [hyr] at h2; cases h2
      exact h3
    rcases run_next_at (P:=P) w1 ty yr.r ym.r since lastv seen ents clock (by rw [hw1]; exact hit) (by rw [hw1]; exact hme) hold hsl' with⟨hz0,hrun⟩ | ⟨e0,he0,w2,hw2,hrun⟩
    · -- nothing is left
      have hex : (execOp (ev a'.tmps.toList) { dst := none, op := .next (.tmp q) false, type := ty, pos := "", after := #[], guard := none }).run P w1 = .ok (.value (.tuple #[.bool false])) w1 := by
        simp only [execOp,hx,Sem.run_bind,hrun,Result.andThen_ok,Sem.run_pure]
      rw [hex]
      refine⟨?_,Eng.Rest.refl w1⟩
      rw [hw1]
      have hallV:∀ j x,es[j]?=some x→V j=true:=by
        intro j x hj
        cases hv:V j with
        | true=>rfl
        | false=>
          exfalso
          have h1:=ziR (f:=fun j=>V j&&DD j) (es:=es) (j:=0) hj (by simp [hv])
          obtain⟨i,hi⟩:=List.getElem?_of_mem h1
          obtain⟨e1,h2,h3⟩:=hel.get hi
          have h4:e1∈leftOf ents seen:=by
            unfold leftOf
            rw [Array.mem_filter]
            refine⟨Array.mem_toList_iff.1 (List.mem_of_getElem? h2),?_⟩
            have h5:=hseen j x hj
            rw [h3.2.2] at h5
            rw [h5,hv]; rfl
          have h6:=Array.size_pos_of_mem h4
          omega
      have hcz:c=z:=by
        rw [Bool.eq_iff_iff,hc,hz]
        constructor
        · rintro⟨j,h1,_,h3⟩; exact⟨j,h1,h3⟩
        · rintro⟨j,h1,h3⟩; exact⟨j,h1,hallV j _ (List.getElem?_eq_getElem h1),h3⟩
      have hkeep:zH (fun j=>V j&&DD j) es 0=l':=by
        rw [hl']
        refine zbK fun t ht=>?_
        rw [Nat.zero_add,hallV t _ (List.getElem?_eq_getElem ht),Bool.true_and]
      rw [hkeep] at hel hkb
      -- the state behind the loop
      obtain⟨sf,hsf⟩:∃ sf,sf=setV (putO s mp (.map l' clock)) r none s.nx (minN (minN s.low mp) r):=⟨_,rfl⟩
      rw [← hsf] at hd
      have hnxf:sf.nx=s.nx:=by rw [hsf,zas]
      have hlowf:sf.low≤s.low∧sf.low≤mp∧sf.low≤r:=by rw [hsf,za2,zbX,zbX]; omega
      have hatf:∀ b,sf.at b=if b=r then none else if b=mp then some (.map l' clock) else s.at b:=by
        intro b
        rw [hsf,zP,zda,zP]
        by_cases h1:b=r
        · rw [if_pos ⟨hr16,h1⟩,if_pos h1]
        · rw [if_neg (fun hh=>h1 hh.2),if_neg h1]
          by_cases h2:b=mp
          · rw [if_pos ⟨hm16,h2⟩,if_pos h2]
          · rw [if_neg (fun hh=>h2 hh.2),if_neg h2]
      have Hf:Sim P ι sf w'.heap:=by
        refine zjB H ham hmp hr hym hyr (x1:=ym) (fun b x hb=>⟨x,hb,rfl,rfl⟩) (fun _ _=>rfl) hym rfl hnxf (fun b h1 h2=>by rw [hatf,if_neg h2,if_neg h1]) M.size M.old (fun o ho=>?_) (fun o ho=>?_) hmr
        · rw [hatf,if_neg hmr,if_pos rfl] at ho
          cases ho
          exact⟨_,hme,ents,rfl,hel,hkb⟩
        · rw [hatf,if_pos rfl] at ho
          cases ho
      have hSt:Ste ι s h ι sf w'.heap:=by
        refine⟨fun _ _ h=>h,by rw [hnxf]; exact Nat.le_refl _,hlowf.1,M.size,fun b _ hb=>?_,fun _ _ h=>.inl h,fun b x hb hb2=>?_,fun q' hq' hb=>?_⟩
        · rw [hatf]
          split
          · rfl
          · split
            · rename_i h2; rw [h2,hmp] at hb; cases hb
            · exact hb
        · unfold amAt at hb2
          rw [hatf] at hb2
          split at hb2
          · rename_i o' ho'
            split at ho'
            · cases ho'
            · split at ho'
              · cases ho'; simp [VO.am] at hb2
              · unfold amAt; rw [ho']; exact hb2
          · cases hb2
        · refine M.old q' hq' (fun hh=>?_) (fun hh=>?_)
          · have h7:=hb mp ym hym hh.symm
            rw [hmp] at h7
            have:=hlowf.2.1
            rcases h7 with h7 | h7
            · cases h7
            · omega
          · have h7:=hb r yr hyr hh.symm
            rw [hr] at h7
            have:=hlowf.2.2
            rcases h7 with h7 | h7
            · cases h7
            · omega
      split at hd
      · cases hd
      · rename_i hnn
        rw [hcz] at rec
        refine zg6 ok hcf sd b hd rec (by simp only [VR]; exact⟨_,rfl,by simp [VL,VR]⟩) Hf D R ?_
        intro x er' dr' h' cc
        have cc':CP P ι s h m o x er' dr' h':=cc.trans H hSt
        cases x with
        | normal=>
          exfalso
          have hx1:=cc.1
          obtain⟨x',e1,d1,s1⟩:=o
          cases x' with
          | normal=>exact hnn _ _ _ hd
          | _=>cases hx1
        | _=>exact cc'
    · -- an entry that is left, whichever
      have hex : (execOp (ev a'.tmps.toList) { dst := none, op := .next (.tmp q) false, type := ty, pos := "", after := #[], guard := none }).run P w1 = .ok (.value (.tuple #[.bool true, e0.key, e0.val])) (ChangeMaps.setBlock w2 yr.r (.mapIter (some ym.r) since (seen.push e0.born) clock)) := by
        simp only [execOp,hx,Sem.run_bind,hrun,Result.andThen_ok,Sem.run_pure]
      rw [hex]
      have hheap:(ChangeMaps.setBlock w2 yr.r (.mapIter (some ym.r) since (seen.push e0.born) clock)).heap=w'.heap.setIfInBounds yr.r (.mapIter (some ym.r) since (seen.push e0.born) clock):=by
        rcases hw2 with rfl | rfl <;> rw [← hw1] <;> rfl
      refine⟨?_,by rcases hw2 with rfl | rfl <;> exact⟨rfl,rfl,rfl⟩⟩
      rw [hheap]
      -- which entry it is
      have hmem:e0∈ents∧seen.contains e0.born=false:=by
        have h1:=Array.mem_toList_iff.1 he0
        unfold leftOf at h1
        rw [Array.mem_filter] at h1
        refine⟨h1.1,?_⟩
        simpa using h1.2
      obtain⟨i,hi⟩:=List.getElem?_of_mem (Array.mem_toList_iff.2 hmem.1)
      obtain⟨x,hxi,hxe⟩:=hel.get' hi
      obtain⟨j,hj,hfj,hsub,herase⟩:=zfb (fun j=>V j&&DD j) hxi
      simp only [Nat.zero_add] at hfj herase
      have hVj:V j=false:=by
        rw [← hseen j x hj,hxe.2.2]; exact hmem.2
      obtain⟨k,v,wb⟩:=x
      obtain⟨hr1,y',hr2,hy'⟩:=hround j k v wb hj
      -- the round
      have hone:∃ y1,zbP p self m ro b eb d s r mp es j k v a (x0||c)=some (DD j,y1)∧(a=none∨y1=((x0||c)||YY j)):=by
        cases hacc:(x0||c) with
        | false=>exact⟨_,hr1,.inr (by simp)⟩
        | true=>
          refine⟨_,hr2,?_⟩
          rcases hy' with h1 | h1
          · exact .inr (by simp [h1])
          · exact .inl h1
      obtain⟨y1,hone,hy1⟩:=hone
      obtain⟨e1,d1,s1,es2,j2,hrun1,hlow1,hsame,hsameD,hmp1,hget1⟩:=zi3 hone
      obtain⟨x1,hx1⟩:∃ x1:Inf,x1=⟨ym.r,ym.cap,ents,clock,e0.born⟩:=⟨_,rfl⟩
      obtain⟨ιj,hιj⟩:∃ ιj:Io,ιj=ι.put mp x1:=⟨_,rfl⟩
      have hιm:ιj mp=some x1:=by rw [hιj]; exact Io.put_self
      have hιo:∀ b,b≠mp→ιj b=ι b:=by intro b hb; rw [hιj]; unfold Io.put; rw [if_neg hb]
      have hgh:Gh ι ιj:=by
        intro b y hb
        by_cases h1:b=mp
        · subst h1
          rw [hym] at hb; cases hb
          exact⟨x1,hιm,by rw [hx1],by rw [hx1]⟩
        · exact⟨y,by rw [hιo b h1]; exact hb,rfl,rfl⟩
      have hgh':Gh ιj ι:=by
        intro b y hb
        by_cases h1:b=mp
        · subst h1
          rw [hιm] at hb; cases hb
          exact⟨ym,hym,by rw [hx1],by rw [hx1]⟩
        · exact⟨y,by rw [← hιo b h1]; exact hb,rfl,rfl⟩
      obtain⟨sj,hsj⟩:∃ sj,sj=setQ (setQ ⟨s.V,s.nx,1000000000⟩ mp (.amap es j false)) r (.pick mp):=⟨_,rfl⟩
      rw [← hsj] at hrun1
      have hatj:∀ b,sj.at b=if b=r then some (.pick mp) else if b=mp then some (.amap es j false) else s.at b:=by
        intro b
        rw [hsj,zl2,zl2]
        by_cases h1:b=r
        · rw [if_pos ⟨hr16,h1⟩,if_pos h1]
        · rw [if_neg (fun hh=>h1 hh.2),if_neg h1]
          by_cases h2:b=mp
          · rw [if_pos ⟨hm16,h2⟩,if_pos h2]
          · rw [if_neg (fun hh=>h2 hh.2),if_neg h2]; rfl
      have hnxj:sj.nx=s.nx:=by rw [hsj]; unfold setQ; rw [zas,zas]
      obtain⟨h1,hh1⟩:∃ h1,h1=w'.heap.setIfInBounds yr.r (.mapIter (some ym.r) since (seen.push e0.born) clock):=⟨_,rfl⟩
      have hyrlt:yr.r<w'.heap.size:=zN hit
      have g1:∀ q',q'≠yr.r→h1[q']?=w'.heap[q']?:=fun q' hq'=>by rw [hh1,Array.getElem?_setIfInBounds_ne (Ne.symm hq')]
      have g2:h1[yr.r]?=some (.mapIter (some ym.r) since (seen.push e0.born) clock):=by rw [hh1]; simp [hyrlt]
      have gs:h1.size=w'.heap.size:=by rw [hh1]; simp
      rw [← hh1]
      have Hj:Sim P ιj sj h1:=by
        refine zjB H ham hmp hr hym hyr (x1:=x1) hgh hιo hιm (by rw [hx1]) hnxj (fun b h1 h2=>by rw [hatj,if_neg h2,if_neg h1]) (by rw [gs]; exact M.size) (fun q' h1 h2 h3=>by rw [g1 q' h3]; exact M.old q' h1 h2 h3) (fun o ho=>?_) (fun o ho=>?_) hmr
        · rw [hatj,if_neg hmr,if_pos rfl] at ho
          cases ho
          refine⟨_,by rw [g1 _ hne]; exact hme,?_⟩
          refine⟨zH (fun j=>V j&&DD j) es 0,i,e0,?_,?_,⟨⟨(k,v,wb),hj,hxi⟩,hsub⟩,?_,?_,?_⟩
          · rw [hx1]; exact hel.gh hgh
          · rw [hx1]; exact hkb
          · rw [hx1]; simpa using hi
          · rw [hx1]
          · rw [hx1]; simp
        · rw [hatj,if_pos rfl] at ho
          cases ho
          refine⟨_,g2,x1,since,seen.push e0.born,hιm,by rw [hx1],by rw [hx1]; simp⟩
      refine zg6 ok hcf sd b (v:=.tup [.bool true,k,v]) hrun1 (rec.gh hgh) ?_ Hj (D.gh hgh) (R.gh hgh) ?_
      · simp only [VR]
        exact⟨_,rfl,VL.mk3 (by simp only [VR]) (VR.gh hgh _ hxe.1) (VR.gh hgh _ hxe.2.1)⟩
      · rintro x3 er3 dr3 h3 ⟨hx3,ι3,c1,c2,c3,c4⟩
        obtain rfl:x3=.normal:=hx3
        simp only
        have hgh3:Gh ι ι3:=by
          intro b y hb
          obtain⟨y',h4,h5,h6⟩:=hgh b y hb
          exact⟨y',c1.sub b y' h4,h5,h6⟩
        have hkeep3:∀ q',q'<h1.size→q'≠ym.r→h3[q']?=h1[q']?:=by
          intro q' hq' hqm
          refine c1.old q' hq' fun b y hb hy=>.inr ⟨?_,?_⟩
          · have:=(Hj.fresh b y hb).1
            rw [hnxj] at this
            have hl:s.nx≤s1.low:=hlow1
            show b<s1.low
            omega
          · unfold amAt
            rw [hatj]
            by_cases h4:b=r
            · rw [if_pos h4]; rfl
            · rw [if_neg h4]
              by_cases h5:b=mp
              · exfalso
                subst h5
                rw [hιm] at hb; cases hb
                rw [hx1] at hy
                exact hqm hy.symm
              · rw [if_neg h5]
                cases h6:s.at b with
                | none=>rfl
                | some o'=>
                  have:=amV_at ham h6
                  cases o' <;> first | rfl | (simp [amO] at this)
        -- the map behind the round
        have hmp3:h3[ym.r]?=some (.map (if DD j then ents.eraseIdxIfInBounds i else ents) clock):=by
          obtain⟨x4,ob4,k1,k2,k3⟩:=c2.obj mp _ hmp1
          rw [c1.sub mp x1 hιm] at k1; cases k1
          obtain⟨es4,j4,e4,k4,k5,k6,k7,k8,rfl⟩:=k3
          rw [hx1] at k2 k4 k5 k7 k8
          simp only at k2 k4 k5 k7 k8
          have hji:j4=i:=by
            refine zn9 hnod (x:=e4) (y:=e0) (by simpa using k7) hi ?_
            exact k8
          rw [hji] at k2
          exact k2
        have hV':∀ t,(fun t=>V t||t == j) t=true↔V t=true∨t=j:=by intro t; simp
        refine⟨⟨fun t=>V t||t == j,⟨by have:=c1.size; rw [gs] at this; exact Nat.le_trans M.size this,fun q' h4 h5 h6=>?_,⟨seen.push e0.born,clock,?_,hsc,fun t x ht=>?_⟩,⟨_,hmp3,?_⟩,⟨c||YY j,?_,?_⟩⟩⟩,DL.same hgh3 hsameD D c4,?_⟩
        · rw [hkeep3 q' (by rw [gs]; exact Nat.lt_of_lt_of_le h4 M.size) h5,g1 q' h6]
          exact M.old q' h4 h5 h6
        · rw [hkeep3 yr.r (by rw [gs]; exact hyrlt) (Ne.symm hne)]
          exact g2
        · have h4:=hseen t x ht
          rw [Bool.eq_iff_iff,Bool.or_eq_true,beq_iff_eq,← h4,Array.contains_iff_mem,Array.contains_iff_mem,Array.mem_push]
          constructor
          · rintro (h5 | h5)
            · exact .inl h5
            · refine .inr (born_inj hborn ht hj ?_)
              rw [h5]
              exact hxe.2.2.symm
          · rintro (h5 | h5)
            · exact .inl h5
            · subst h5
              rw [hj] at ht; cases ht
              exact .inr hxe.2.2
        · cases hD:DD j with
          | false=>
            have:zH (fun t=>(fun t=>V t||t == j) t&&DD t) es 0=zH (fun t=>V t&&DD t) es 0:=by
              refine zbK fun t ht=>?_
              by_cases h5:t=j
              · subst h5; simp [hD]
              · have h6:(t == j)=false:=by rw [beq_eq_false_iff_ne]; exact h5
                simp only [Nat.zero_add,h6,Bool.or_false]
            rw [this]
            simpa using hel
          | true=>
            have:zH (fun t=>(fun t=>V t||t == j) t&&DD t) es 0=zH (fun u=>(fun j=>V j&&DD j) u||u == j) es 0:=by
              refine zbK fun t ht=>?_
              by_cases h5:t=j
              · subst h5; simp [hD]
              · have h6:(t == j)=false:=by rw [beq_eq_false_iff_ne]; exact h5
                simp only [Nat.zero_add,h6,Bool.or_false]
            rw [this,← herase]
            simp only [if_true]
            rw [zfm,← zgY]
            exact hel.del
        · rw [Bool.or_eq_true,hc]
          constructor
          · rintro (⟨t,h5,h6,h7⟩ | h5)
            · exact⟨t,h5,by simp [h6],h7⟩
            · exact⟨j,(List.getElem?_eq_some_iff.1 hj).1,by simp,h5⟩
          · rintro⟨t,h5,h6,h7⟩
            rw [Bool.or_eq_true,beq_iff_eq] at h6
            rcases h6 with h6 | h6
            · exact .inl ⟨t,h5,h6,h7⟩
            · subst h6; exact .inr h7
        · refine⟨c3.len,c3.fit,fun x hx=>?_⟩
          rw [zc1 hfit hx halt]
          split
          · rename_i hax
            have h5:=zg4 halt hget1 x hax
            have h6:=zbA c3 x
            rw [h5] at h6
            rcases hy1 with h7 | h7
            · rw [h7] at hax; cases hax
            · rw [h7,Bool.or_assoc] at h6
              simp only [VR] at h6 ⊢
              exact h6
          · rename_i hax
            rw [← zha hx]
            rcases zhr hsame x hx with h5 | h5
            · rw [h5]; simp only [VR]
            · have h6:=zbA c3 x
              rw [← h5] at h6
              have h7:=rec.get x hx
              rw [zc1 hfit hx halt,if_neg hax,← zha hx] at h7
              exact VR.back hgh3 _ h7 h6
        · have hit3:itS h3 yr.r=seen.push e0.born:=by
            unfold itS
            rw [hkeep3 yr.r (by rw [gs]; exact hyrlt) (Ne.symm hne),g2]
          have hit0':itS w'.heap yr.r=seen:=by unfold itS; rw [hit]
          rw [hit3,hit0']
          refine filter_lt _ _ ?_ (k,v,wb) ?_ ?_ _ (List.mem_of_getElem? hj)
          · intro x hx
            cases hcx:seen.contains x.2.2 with
            | false=>rfl
            | true=>
              have h8:(seen.push e0.born).contains x.2.2=true:=Array.contains_iff_mem.2 (Array.mem_push.2 (.inl (Array.contains_iff_mem.1 hcx)))
              rw [h8] at hx
              cases hx
          · have:=hseen j _ hj
            rw [this,hVj]; rfl
          · have h5:(k,v,wb).2.2=e0.born:=hxe.2.2
            rw [h5]
            simp
  have:=zad hW w' rfl
  rw [← hdf,zaN] at this
  refine wpIn_mono this ?_
  intro x a2 w2 hq2
  cases x with
  | normal=>
    obtain⟨⟨⟨V',M'⟩,hd2,hlt⟩,hr2⟩:=hq2
    exact⟨⟨V',M',by rw [hd2,hdf],hrest.trans hr2⟩,hlt⟩
  | _=>exact⟨hq2.1,hrest.trans hq2.2⟩
theorem znE (ok:Ok P p)(lb:zb9 P p)(sd:Snd P self){b:Code}(hd:ze9 p self m ro b e d s=.ok o)(re:RE ι m e er)(H:Sim P ι s h)(D:DL ι d dr)(R:RO ι ro l):WP l P (.loop b) (CP P ι s h m o) er dr h:=by
  unfold ze9 at hd
  split at hd
  · exact zfA sd hd re H D R
  · rename_i q hn
    split at hd
    · rename_i r hq
      split at hd
      · rename_i mp since last hr
        split at hd
        · rename_i es clock hmp
          split at hd
          · exact zoA ok lb sd hn hq hr hmp hd re H D R
          · exact zfA sd hd re H D R
        · exact zfA sd hd re H D R
      · exact zfA sd hd re H D R
    · exact zfA sd hd re H D R
end mapl
end Go.Run
namespace Go.Run
open Go Go.Eng
section all
variable {P:Program} {p:Pr} {self:zu}
theorem zmZ (ok:Ok P p)(lb:zb9 P p)(sd:Snd P self):Snd P (step p self):=by
  have hcf:=zkF ok lb sd
  intro m ro c e d s o hd ι er dr h l re H D R
  cases c <;> simp only [step] at hd
  case skip=>cases hd; exact c_skip re H D
  case label i=>cases hd; exact c_label re H D
  case ret=>cases hd; exact c_ret re H D
  case exit i=>cases hd; exact c_exit re H D
  case goto i=>cases hd; exact c_goto re H D
  case seq a b=>exact c_seq sd hd re H D R
  case cond x a b=>exact c_cond sd hd re H D R
  case block i b=>exact c_block sd hd re H D R
  case region id ops draw=>
    cases draw with
    | true=>exact zmx ok hcf hd re H D
    | false=>exact zjJ ok hcf hd re H D
  case loop b=>exact znE ok lb sd hd re H D R
  case scope b=>exact c_scope sd hd re H D R
  case rangeFunc f ps a b=>exact c_range ok lb sd hd re H D R
  case refuse w=>cases hd
theorem zeT (ok:Ok P p)(lb:zb9 P p):∀ n,Snd P (runC p n)
  | 0=>fun m ro c e d s o hd=>by cases hd
  | n+1=>zmZ ok lb (zeT ok lb n)
theorem Sim.zero (h:Heap):Sim P (fun _=>none) s0 h:=by
  refine⟨fun b x hx=>(by cases hx),fun b c x y _ _ hx=>(by cases hx),fun b o hb=>?_⟩
  simp [s0,S.at,En.get_leaf,zA] at hb
noncomputable def TyQ (P:Program)(t:Nat)(o:Option TI):Prop:=∀ ti,o=some ti→mkTI P t=some { ti with fl:=[] }∧(ti.fl=[]∨flT P t=ti.fl)
noncomputable def FnQ (P:Program)(f:Nat)(o:Option FI):Prop:=∀ fi,o=some fi→mkFI P f=some fi
noncomputable def AllT {α:Type}(Q:Nat→Option α→Prop):Nat→Nat→Nat→En (Option α)→Prop
  | 0,b,_,t=>Q b t.lf
  | _+1,_,_,.leaf none=>True
  | _+1,_,_,.leaf (some _)=>False
  | d+1,b,k,.node l r=>AllT Q d b (k+k) l∧AllT Q d (b+k) (k+k) r
theorem AllT.get {α:Type}{Q:Nat→Option α→Prop}(hn:∀ b,Q b none):∀ {d b k:Nat} {tr:En (Option α)},AllT Q d b k tr→∀ t,t<2 ^ d→Q (b+k*t) (En.get (Pa.of d t) tr)
  | 0,b,k,tr,h,t,ht=>by
    have:t=0:=by simp at ht; omega
    subst this
    exact h
  | d+1,b,k,.leaf none,h,t,ht=>by rw [En.get_leaf]; exact hn _
  | d+1,b,k,.leaf (some v),h,t,ht=>h.elim
  | d+1,b,k,.node l r,h,t,ht=>by
    rw [Nat.pow_succ] at ht
    rw [Pa.of_succ]
    split
    · rename_i h0
      rw [En.get_o]
      have:=AllT.get hn h.1 (t / 2) (by omega)
      have e1:b+(k+k)*(t / 2)=b+k*t:=by
        obtain⟨q,rfl⟩:∃ q,t=2*q:=⟨t / 2,by omega⟩
        rw [Nat.mul_div_cancel_left _ (by omega),← Nat.two_mul,Nat.mul_comm 2 k,Nat.mul_assoc]
      rw [e1] at this
      exact this
    · rename_i h0
      rw [En.get_i]
      have:=AllT.get hn h.2 (t / 2) (by omega)
      have e1:b+k+(k+k)*(t / 2)=b+k*t:=by
        obtain⟨q,rfl⟩:∃ q,t=2*q+1:=⟨t / 2,by omega⟩
        have:(2*q+1) / 2=q:=by omega
        rw [this,← Nat.two_mul,Nat.mul_comm 2 k,Nat.mul_assoc,Nat.mul_add,Nat.mul_one]
        omega
      rw [e1] at this
      exact this
theorem ok_of {ty:En (Option TI)}{fn:En (Option FI)}{lib:Nat→Nat}{d1 d2 n1 n2:Nat}(h1:AllT (TyQ P) d1 0 1 ty)(h2:AllT (FnQ P) d2 0 1 fn)(hn1:n1=2 ^ d1)(hn2:n2=2 ^ d2)(hm:P.follows .mixedOrders=true){ext:Nat→X}(he:∀ g,ExtQ P g (ext g)) :
    Ok P ⟨fun t=>ite (Nat.ble (Nat.succ t) n1) (En.get (Pa.of d1 t) ty) none,fun f=>ite (Nat.ble (Nat.succ f) n2) (En.get (Pa.of d2 f) fn) none,lib,ext⟩:=by
  refine⟨he,fun t ti ht=>?_,fun f fi hf=>?_,hm⟩
  · simp only [zA] at ht
    split at ht
    · rename_i hlt
      have hlt:=zf.1 hlt
      have:=AllT.get (Q:=TyQ P) (fun b ti h=>by cases h) h1 t (by omega)
      rw [Nat.zero_add,Nat.one_mul] at this
      exact this ti ht
    · cases ht
  · simp only [zA] at hf
    split at hf
    · rename_i hlt
      have hlt:=zf.1 hlt
      have:=AllT.get (Q:=FnQ P) (fun b ti h=>by cases h) h2 f (by omega)
      rw [Nat.zero_add,Nat.one_mul] at this
      exact this fi hf
    · cases hf
theorem lib_none (hl:∀ g,p.lib g=0):zb9 P p:=fun g _ _ _ _ hg=>absurd (hl g) hg
end all
end Go.Run
namespace Go.Run
open Go Go.Eng
noncomputable def segs:Code→List Code
  | .seq a b=>segs a++segs b
  | c=>[c]
noncomputable def runL (self:zu)(m:Fm)(ro:Option Nat):List Code→E→List Nat→S→Res Out
  | [],e,d,s=>.ok ⟨.normal,e,d,s⟩
  | c::cs,e,d,s=>match self m ro c e d s with
    | .ok ⟨.normal,e,d,s⟩=>runL self m ro cs e d s
    | r=>r
noncomputable def zfl (m:Fm):List Nat→E→E→E
  | [],_,acc=>acc
  | t::ks,e,acc=>ite (Nat.ble (Nat.succ t) m.n) (force (seeE m e t) fun v=>En.setK (Pa.of m.dp t) v acc fun acc=>zfl m ks e acc) (zfl m ks e acc)
noncomputable def zfL:List Nat→S→En (Option VO)→En (Option VO)
  | [],_,V=>V
  | b::bs,s,V=>ite (Nat.ble b 16383) (En.setK (Pa.of 14 b) (s.at b) V fun V=>zfL bs s V) (zfL bs s V)
noncomputable def fromE (m:Fm):List (Nat × T)→E→E
  | [],acc=>acc
  | x::ks,acc=>En.setK (Pa.of m.dp x.1) x.2 acc fun acc=>fromE m ks acc
noncomputable def fromV:List (Nat × VO)→En (Option VO)→En (Option VO)
  | [],V=>V
  | x::bs,V=>En.setK (Pa.of 14 x.1) (some x.2) V fun V=>fromV bs V
noncomputable def seg (p:Pr)(n:Nat)(m:Fm)(cs:List Code)(ks bs:List Nat)(e:E)(d:List Nat)(s:S):Option (E × List Nat × S):=
  match runL (runC p n) m none cs e d s with
  | .ok ⟨.normal,e,d,s⟩=>some (zfl m ks e (.leaf .any),d,⟨zfL bs s (.leaf none),s.nx,s.low⟩)
  | _=>none
noncomputable def isEnd:Ex→Bool | .normal=>true | .ret=>true | _=>false
noncomputable def isTrue:Res (T × S)→Bool | .ok (.bool true,_)=>true | _=>false
noncomputable def lastB (p:Pr)(n:Nat)(m:Fm)(rs:List ResultVar)(cs:List Code)(e:E)(d:List Nat)(s:S):Bool:=
  match runL (runC p n) m none cs e d s with
  | .ok ⟨x,e,d,s⟩=>isEnd x&&isTrue (zhq p m rs e d s)
  | _=>false
inductive zgX (p:Pr)(n:Nat)(m:Fm)(rs:List ResultVar):List Code→E→List Nat→S→Prop
  | last {cs e d s}:lastB p n m rs cs e d s=true→zgX p n m rs cs e d s
  | next {cs e d s e2 d2 s2} (k:Nat) (ks bs:List Nat):seg p n m (cs.take k) ks bs e d s=some (e2,d2,s2)→zgX p n m rs (cs.drop k) e2 d2 s2→zgX p n m rs cs e d s
noncomputable def nxK (n:Env→List Deferred→Heap→Prop)(k:Cont):Cont:=fun x e d h=>match x with | .normal=>n e d h | x=>k x e d h
section pieces
variable {P:Program} {p:Pr} {ι:Io} {s s' s2:S} {h:Heap} {m:Fm} {e e':E} {er:Env} {self:zu} {ro:Option Nat} {d:List Nat} {dr:List Deferred} {l:Option Nat} {o:Out}
theorem znn (H:Sim P ι s h)(hw:∀ b,s2.at b=s.at b∨s2.at b=none)(hn:s2.nx=s.nx):Sim P ι s2 h:=by
  have hne:∀ b,s2.at b≠none→s.at b≠none:=fun b hb=>by
    rcases hw b with h1 | h1
    · rw [← h1]; exact hb
    · exact absurd h1 hb
  refine⟨fun b x hx=>by rw [hn]; exact H.fresh b x hx,fun b c x y hb hc=>H.inj b c x y (hne b hb) (hne c hc),fun b o hb=>?_⟩
  rcases hw b with h1 | h1
  · exact H.obj b o (h1 ▸ hb)
  · rw [h1] at hb; cases hb
theorem znt (hw:∀ b,s2.at b=s.at b∨s2.at b=none)(hn:s2.nx=s.nx)(hl:s2.low=s.low):Ste ι s h ι s2 h:=by
  refine⟨fun _ _ h=>h,by rw [hn]; exact Nat.le_refl _,by rw [hl]; exact Nat.le_refl _,Nat.le_refl _,fun b _ hb=>?_,fun _ _ h=>.inl h,fun b x _ hb=>?_,fun _ _ _=>rfl⟩
  · rcases hw b with h1 | h1
    · rw [h1]; exact hb
    · exact h1
  · unfold amAt at hb ⊢
    rcases hw b with h1 | h1
    · rw [← h1]; exact hb
    · rw [h1] at hb; cases hb
theorem zgl (s:S):∀ (bs:List Nat) (V:En (Option VO)) (nx low:Nat),(∀ b,(⟨V,nx,low⟩:S).at b=s.at b∨(⟨V,nx,low⟩:S).at b=none)→∀ b,(⟨zfL bs s V,nx,low⟩:S).at b=s.at b∨(⟨zfL bs s V,nx,low⟩:S).at b=none
  | [],V,nx,low,hV=>hV
  | c::bs,V,nx,low,hV=>by
    unfold zfL
    rw [zA]
    split
    · rename_i hc
      have hc:=zf.1 hc
      rw [En.zac]
      refine zgl s bs _ nx low fun b=>?_
      have hb:=hV b
      unfold S.at at hb ⊢
      rw [zA,zA] at hb ⊢
      by_cases hb16:Nat.ble b 16383=true
      · simp only [hb16,if_true] at hb ⊢
        have hb2:=zf.1 hb16
        rw [En.get_set_of (by omega) (by omega)]
        split
        · rename_i hbc
          subst hbc
          left
          rfl
        · exact hb
      · simp only [hb16,if_false] at hb ⊢
        right; trivial
    · exact zgl s bs V nx low hV
theorem zfi (re:RE ι m e er):∀ (ks:List Nat) (acc:E),RE ι m acc er→RE ι m (zfl m ks e acc) er
  | [],acc,ra=>ra
  | t::ks,acc,ra=>by
    unfold zfl
    rw [zA]
    split
    · rename_i ht
      have ht:t<m.n:=zf.1 ht
      rw [force_eq,En.zac]
      refine zfi re ks _ ⟨ra.len,ra.fit,fun i hi=>?_⟩
      have hf:=ra.fit
      rw [En.get_set_of (by omega) (by omega)]
      split
      · rename_i hit
        subst hit
        exact zbA re i
      · exact ra.get i hi
    · exact zfi re ks acc ra
noncomputable def WPs (l:Option Nat)(P:Program):List Code→Cont→Env→List Deferred→Heap→Prop
  | [],k=>k .normal
  | c::cs,k=>WP l P c (nxK (fun e d h=>WPs l P cs k e d h) k)
theorem zdn {k k':Cont}(hk:∀ x e d h,k x e d h→k' x e d h):∀ (cs:List Code) {er:Env} {dr:List Deferred} {h:Heap},WPs l P cs k er dr h→WPs l P cs k' er dr h
  | [],er,dr,h,H=>hk _ _ _ _ H
  | c::cs,er,dr,h,H=>by
    refine zbz ?_ H
    intro x e d h hx
    cases x with
    | normal=>exact zdn hk cs hx
    | _=>exact hk _ _ _ _ hx
theorem zgN {k:Cont}:∀ (as_ bs:List Code) {er:Env} {dr:List Deferred} {h:Heap},WPs l P as_ (nxK (fun e d h=>WPs l P bs k e d h) k) er dr h→WPs l P (as_++bs) k er dr h
  | [],bs,er,dr,h,H=>H
  | a::as_,bs,er,dr,h,H=>by
    refine zbz ?_ H
    intro x e d h hx
    cases x with
    | normal=>exact zgN as_ bs hx
    | _=>exact hx
theorem ziG {k:Cont}:∀ (as_ bs:List Code) {er:Env} {dr:List Deferred} {h:Heap},WPs l P (as_++bs) k er dr h→WPs l P as_ (nxK (fun e d h=>WPs l P bs k e d h) k) er dr h
  | [],bs,er,dr,h,H=>H
  | a::as_,bs,er,dr,h,H=>by
    refine zbz ?_ H
    intro x e d h hx
    cases x with
    | normal=>exact ziG as_ bs hx
    | _=>exact hx
theorem WP_seqN {a b:Code}{k:Cont}{er:Env}{dr:List Deferred}{h:Heap}(H:WP l P a (nxK (fun e d h=>WP l P b k e d h) k) er dr h):WP l P (.seq a b) k er dr h:=by
  refine zQ fun w hw=>wpIn_seq (wpIn_mono (zad H w hw) ?_)
  rintro x a' w' ⟨hq,hr⟩
  cases x with
  | normal=>
    have h2:=zad (show WP l P b k a'.tmps.toList a'.defers w'.heap from hq) w' rfl
    rw [zaN] at h2
    exact wpIn_mono h2 fun x a w'' q=>⟨q.1,hr.trans q.2⟩
  | _=>exact⟨hq,hr⟩
theorem zaI {k:Cont}{c:Code}{er:Env}{dr:List Deferred}{h:Heap}(H:WPs l P [c] k er dr h):WP l P c k er dr h:=by
  refine zbz ?_ H
  intro x e d h hx
  cases x with
  | normal=>exact hx
  | _=>exact hx
theorem zhC:∀ (c:Code) {k:Cont} {er:Env} {dr:List Deferred} {h:Heap},WPs l P (segs c) k er dr h→WP l P c k er dr h
  | .seq a b,k,er,dr,h,H=>by
    unfold segs at H
    refine WP_seqN ?_
    refine zhC a (zdn ?_ _ (ziG _ _ H))
    intro x e d h hx
    cases x with
    | normal=>exact zhC b hx
    | _=>exact hx
  | .skip,k,er,dr,h,H=>zaI H
  | .cond _ _ _,k,er,dr,h,H=>zaI H
  | .block _ _,k,er,dr,h,H=>zaI H
  | .region _ _ _,k,er,dr,h,H=>zaI H
  | .exit _,k,er,dr,h,H=>zaI H
  | .ret,k,er,dr,h,H=>zaI H
  | .label _,k,er,dr,h,H=>zaI H
  | .goto _,k,er,dr,h,H=>zaI H
  | .loop _,k,er,dr,h,H=>zaI H
  | .rangeFunc _ _ _ _,k,er,dr,h,H=>zaI H
  | .scope _,k,er,dr,h,H=>zaI H
  | .refuse _,k,er,dr,h,H=>zaI H
theorem zea (sd:Snd P self):∀ (cs:List Code) (e:E) (d:List Nat) (s:S) (o:Out),runL self m ro cs e d s=.ok o→∀ (ι:Io) (er:Env) (dr:List Deferred) (h:Heap),RE ι m e er→Sim P ι s h→DL ι d dr→RO ι ro l→WPs l P cs (CP P ι s h m o) er dr h
  | [],e,d,s,o,hd,ι,er,dr,h,re,H,D,R=>by
    cases hd
    exact⟨rfl,ι,Ste.refl ..,H,re,D⟩
  | c::cs,e,d,s,o,hd,ι,er,dr,h,re,H,D,R=>by
    unfold runL at hd
    split at hd
    · rename_i e1 d1 s1 h1
      refine zbz ?_ (sd _ _ _ _ _ _ _ h1 ι er dr h l re H D R)
      rintro x er' dr' h' ⟨hx,ι',q1,q2,q3,q4⟩
      obtain rfl:x=.normal:=hx
      exact zdn (fun _ _ _ _ cc=>cc.trans H q1) cs (zea sd cs e1 d1 s1 o hd ι' er' dr' h' q3 q2 q4 (R.mono q1.sub))
    · rename_i hne
      refine zbz ?_ (sd _ _ _ _ _ _ _ hd ι er dr h l re H D R)
      intro x er' dr' h' cc
      have hox:o.x≠.normal:=by
        intro hox
        obtain⟨x',e1,d1,s1⟩:=o
        have hox:x'=.normal:=hox
        subst hox
        exact hne _ _ _ hd
      cases x with
      | normal=>
        have:=cc.1
        cases ho:o.x <;> rw [ho] at this hox <;> first | exact absurd rfl hox | cases this
      | _=>exact cc
theorem zk6 (ok:Ok P p)(lb:zb9 P p){n:Nat}{rs:List ResultVar}{h0:Heap}{cs:List Code}(C:zgX p n m rs cs e d s):∀ (ι:Io) (er:Env) (dr:List Deferred) (h:Heap),RE ι m e er→Sim P ι s h→DL ι d dr→Ste (fun _=>none) s0 h0 ι s h →
    WPs none P cs (retK P rs (fun v h'=>v=.bool true∧Ext h0 h')) er dr h:=by
  induction C with
  | @last cs e d s hl=>
    intro ι er dr h re H D Q
    unfold lastB at hl
    split at hl
    · rename_i x e1 d1 s1 hr
      simp only [Bool.and_eq_true] at hl
      refine zdn ?_ cs (zea (zeT ok lb n) cs e d s _ hr ι er dr h re H D rfl)
      rintro x' er' dr' h' ⟨hx,ι',q1,q2,q3,q4⟩
      have hl2:=hl.2
      unfold isTrue at hl2
      split at hl2
      · rename_i sf hend
        have key:=zff ok (Sim.zero h0) (Q.trans (Sim.zero (P:=P) h0).fresh q1) q2 q3 q4 hend
        have key2:finW P rs er' dr' h' (fun v h'=>v=.bool true∧Ext h0 h'):=by
          unfold finW at key ⊢
          refine⟨key.1,?_⟩
          have:∀ (K K':Value→Heap→Prop) (hk:∀ v h,K v h→K' v h) (rs:List ResultVar) (acc:List Value) (h:Heap),resA P rs er' acc K h→resA P rs er' acc K' h:=by
            intro K K' hk rs
            induction rs with
            | nil=>intro acc h hh; rw [zjQ] at hh ⊢; exact hk _ _ hh
            | cons r rs ih=>
              intro acc h hh
              cases r with
              | tmp t=>rw [zgj] at hh ⊢; exact ih _ _ hh
              | cell a t=>
                rw [zfd] at hh ⊢
                exact zhi (fun v h' hv=>by rw [zhE] at hv ⊢; exact ih _ _ hv) hh
          refine this _ _ ?_ _ _ _ key.2
          rintro v h' ⟨ι2,r1,r2,r3⟩
          simp only [VR] at r3
          exact⟨r3,⟨r1.size,fun r hr=>r1.old r hr fun b x hx=>by cases hx⟩⟩
        cases x with
        | normal=>obtain rfl:x'=.normal:=hx; unfold retK; exact key2
        | ret=>obtain rfl:x'=.ret:=hx; unfold retK; exact key2
        | _=>cases hl.1
      · cases hl2
    · cases hl
  | @next cs e d s e2 d2 s2 k ks bs hs C ih=>
    intro ι er dr h re H D Q
    unfold seg at hs
    split at hs
    · rename_i e1 d1 s1 hr
      simp only [Option.some.injEq,Prod.mk.injEq] at hs
      obtain⟨rfl,rfl,rfl⟩:=hs
      rw [← List.take_append_drop k cs]
      refine zgN _ _ (zdn ?_ _ (zea (zeT ok lb n) (cs.take k) e d s _ hr ι er dr h re H D rfl))
      rintro x er' dr' h' ⟨hx,ι',q1,q2,q3,q4⟩
      obtain rfl:x=.normal:=hx
      have hw:=zgl s1 bs (.leaf none) s1.nx s1.low fun b=>.inr (by simp [S.at,En.get_leaf,zA])
      have ra:RE ι' m (.leaf .any) er':=⟨q3.len,q3.fit,fun i hi=>by rw [En.get_leaf]; simp [VR]⟩
      exact ih ι' er' dr' h' (zfi q3 ks _ ra) (znn q2 hw rfl) q4 ((Q.trans (Sim.zero (P:=P) h0).fresh q1).trans (Sim.zero (P:=P) h0).fresh (znt hw rfl rfl))
    · cases hs
theorem zlA (ok:Ok P p)(lb:zb9 P p){n:Nat}{f:FuncId}{fi:FI}(hfi:p.fn f=some fi)(hn:fi.nt≤1024)(C:zgX p n ⟨za7 fi.nt,fi.nt⟩ fi.res (segs fi.body) (.leaf zae) [] s0)(h:Heap) :
    zb P f #[] h (fun v h'=>v=.bool true∧Ext h h'):=by
  have hm:=ok.fn f fi hfi
  unfold mkFI at hm
  split at hm
  · rename_i fn hf
    split at hm
    · rename_i c hb
      split at hm
      · rename_i hbod
        cases hm
        refine zdc hf hb hbod (zhC c ?_)
        have re:=zhc (ι:=fun _=>none) (vs:=[]) (us:=[]) (nt:=fn.ntmps) (by simp [VL]) (Nat.zero_le _) hn
        exact zk6 ok lb C _ _ _ h re (Sim.zero h) rfl (Ste.refl ..)
      · cases hm
    · cases hm
  · cases hm
end pieces
end Go.Run
namespace Go.Run
open Go Go.Eng
section rows
variable {P:Program}
theorem kept_of {W W':World}(x:Ext W.heap W'.heap)(r:Eng.Rest W W')(may:MemPlace→Prop):W.keptBut W' may:=by
  refine⟨r.os,r.output,fun i hi=>?_⟩
  rw [x.old i hi]
  cases W.heap[i]? with
  | none=>rfl
  | some o=>cases o <;> first | exact⟨rfl,rfl,rfl,fun _ _=>rfl⟩ | exact .inr ⟨rfl,rfl⟩ | rfl
theorem post_kept {H:Type}{enc:TypeId × Value→H}{f:Func}{s:ChangeSpec}{apart fresh handsOn:Bool}{W W':World}{args:Array Value}{v:Value}{ds gs:List (DataW H)}{before pa pv:List MemPlace}
    (hW:DataW.Whole enc P f.params.toList s.vars apart W args.toList ds gs before)
    (hres:∀ (b:Nat) (sp:Nat→Bool) (hd:Bool),DataW.TrodAll enc P W' b sp hd f.resultTypes.toList (v.resultList f.resultTypes.size) (s.fn H (ds++gs)).results [])
    (hargs:∀ sp:Nat→Bool,(∀ p∈before,sp p.block=true)→DataW.TrodAll enc P W' 0 sp true f.params.toList args.toList (s.fn H (ds++gs)).args pa)
    (hvars:∀ sp:Nat→Bool,(∀ p∈before,sp p.block=true)→DataW.TrodVars enc P W' sp s.vars (s.fn H (ds++gs)).vars pv)
    (hps:before=pa++pv) (hk:∀ may,W.keptBut W' may):s.post enc P f apart fresh handsOn false W args v W':=by
  have hold:∀ p∈before,(fun b=>decide (b<W.heap.size)) p.block=true:=fun p hp=>by simpa using hW.lt p hp
  exact⟨ds,gs,before,[],pa,pv,hW,hres _ _ _,hargs _ hold,hvars _ hold,hk _,fun h=>(by cases h)⟩
end rows
end Go.Run
end
