/- Texts joined by pack.py: lemmas for YtepaekbjoombpaaGreatDoorFiled. No condition. -/
import Derived.Test.YtepaekbjoombpaaGreatDoorPG5
import Derived.Shelf.Strings.Count
import Derived.Shelf.Strconv.Itoa4
import Derived.Shelf.Strings.OnBuilder
import Derived.Shelf.Strings.Search3
import Derived.Shelf.Strconv.ErrVar
import Derived.Shelf.Strconv.AtoiAll
import Derived.Ground.NamesProg
import Derived.Test.YtepaekbjoombpaaGreatDoorProg
import Derived.Lib.ItoaNum
import Derived.Lib.Atoi
import Derived.Lib.Split
import Derived.Lib.LaidTab
set_option linter.unusedSimpArgs false
set_option linter.unusedVariables false
set_option linter.defProp false
section
set_option linter.unusedVariables false
set_option linter.unusedSimpArgs false
namespace Go.Eng
open Go
attribute [local semireducible] ze opQS zaR setD WP
inductive PT where
  | fin
  | quiet (i:Nat) (r:PT)
  | pure (i:Nat) (r:PT)
  | one (i:Nat) (r:PT)
  | keep (i:Nat) (r:PT)
  | fork (x y:Nat) (a b:PT)
  | fork2 (x y:Nat) (u v:Bool) (a b:PT)
  | fork3 (x y z:Nat) (u v w:Bool) (a b c:PT)
def PT.size:PT→Nat
  | .fin=>0
  | .quiet _ r | .pure _ r | .one _ r | .keep _ r=>r.size+1
  | .fork _ _ a _=>a.size+1
  | .fork2 _ _ _ _ a _=>a.size+1
  | .fork3 _ _ _ _ _ _ a _ _=>a.size+1
def PT.G:PT→Nat→Bool
  | .fin,_=>true
  | .quiet _ r,j | .pure _ r,j | .keep _ r,j=>r.G j
  | .one i r,j=>!(i == j)&&r.G j
  | .fork _ _ a b,j=>a.G j&&b.G j
  | .fork2 x y u v a b,j=>(u||!(x == j))&&((v||!(y == j))&&(a.G j&&b.G j))
  | .fork3 x y z u v w a b c,j=>(u||!(x == j))&&((v||!(y == j))&&((w||!(z == j))&&(a.G j&&(b.G j&&c.G j))))
section tree
variable {P:Program} {l:Option Nat} {R:Heap→Heap→Prop} {G:Nat→Bool}
theorem opD_any {all:List Oper}{i:Nat}{o:Oper}{e:Env}{d:List Deferred}{w1:World}{Kx:Env→Heap→Prop}{Kf:Act→World→Prop}(hi:all[i]?=some o)
    (H:zK o.guard all e (fun e=>opW P o.op o.type e w1.heap (fun v h''=>(G i=true→R w1.heap h'')∧Kx (putE e o.dst v) h'')) (fun e=>(G i=true→R w1.heap w1.heap)∧Kx (putE e o.dst undef) w1.heap)) (fin:∀ e' w',Rest w1 w'→Kx e' w'.heap→Kf ⟨e'.toArray,d⟩ w') :
    opD P all.toArray i (fun a' w'=>(G i=true→R w1.heap w'.heap)∧Rest w1 w'∧Kf a' w') ⟨e.toArray,d⟩ w1:=by
  have hi':all.toArray[i]?=some o:=by simpa using hi
  unfold opD
  simp only [hi']
  rcases zay H o rfl with⟨hw,hA⟩ | ⟨hw,hB⟩
  · simp only [hw,if_true]
    have h1:=zl hA
    unfold ze at h1
    refine⟨h1.1,?_⟩
    have h2:=h1.2 w1 rfl
    rw [zaw,zaq]
    have fin':∀ v w',Rest w1 w'→((G i=true→R w1.heap w'.heap)∧Kx (putE e o.dst v) w'.heap)→(G i=true→R w1.heap w'.heap)∧Rest w1 w'∧Kf ((Act.mk e.toArray d).put o.dst v) w':=by
      intro v w' hr' hk
      refine⟨hk.1,hr',?_⟩
      rw [zI]
      exact fin _ _ hr' hk.2
    unfold zaG at h2
    unfold zaK
    split at h2
    · exact⟨fin' _ _ h2.2 h2.1,h2.2⟩
    · exact⟨fin' _ _ h2.2 h2.1,h2.2⟩
    · exact⟨h2.1,Calls.mono h2.2 fun x w'' ⟨v,hx,hv,hr''⟩=>⟨v,hx,fin' v w'' (h2.1.trans hr'') hv,hr''⟩⟩
    · exact⟨h2.1,RoundIn.mono h2.2 fun x w'' ⟨v,hx,hv,hr''⟩=>⟨v,hx,fin' v w'' (h2.1.trans hr'') hv,hr''⟩⟩
    · exact h2.elim
  · simp only [hw]
    refine⟨hB.1,Rest.refl _,?_⟩
    rw [zI]
    exact fin _ _ (Rest.refl _) hB.2
def stO (P:Program)(all:List Oper)(o:Option Oper)(e:Env)(h:Heap)(K:Env→Heap→Prop):Prop:=
  match o with
  | some o=>zK o.guard all e (fun e=>opW P o.op o.type e h (fun v h'=>K (putE e o.dst v) h')) (fun e=>K (putE e o.dst undef) h)
  | none=>False
def zt (P:Program)(R:Heap→Heap→Prop)(all:List Oper):PT→Cont→Env→List Deferred→Heap→Prop
  | .fin,k,e,d,h=>∀ h',R h h'→k .normal e d h'
  | .quiet i rest,k,e,d,h=>match all[i]? with
    | some o=>zK o.guard all e (fun e=>opQW P R o.op o.type e h (fun v h'=>zt P R all rest k (putE e o.dst v) d h')) (fun e=>zt P R all rest k (putE e o.dst undef) d h)
    | none=>False
  | .pure i rest,k,e,d,h=>match all[i]? with
    | some o=>zK o.guard all e (fun e=>opPW P o.op e h (fun v h'=>zt P R all rest k (putE e o.dst v) d h')) (fun e=>zt P R all rest k (putE e o.dst undef) d h)
    | none=>False
  | .one i rest,k,e,d,h=>∀ h',R h h'→stO P all all[i]? e h' (fun e h''=>zt P R all rest k e d h'')
  | .keep i rest,k,e,d,h=>∀ h',R h h'→stO P all all[i]? e h' (fun e h''=>R h' h''∧zt P R all rest k e d h'')
  | .fork x y a b,k,e,d,h=>∀ h',R h h'→stO P all all[x]? e h' (fun e h''=>R h' h''∧zt P R all a k e d h'')∧stO P all all[y]? e h' (fun e h''=>R h' h''∧zt P R all b k e d h'')
  | .fork2 x y u v a b,k,e,d,h=>∀ h',R h h'→stO P all all[x]? e h' (fun e h''=>(u=true→R h' h'')∧zt P R all a k e d h'')∧stO P all all[y]? e h' (fun e h''=>(v=true→R h' h'')∧zt P R all b k e d h'')
  | .fork3 x y z u v t a b c,k,e,d,h=>∀ h',R h h'→stO P all all[x]? e h' (fun e h''=>(u=true→R h' h'')∧zt P R all a k e d h'')∧stO P all all[y]? e h' (fun e h''=>(v=true→R h' h'')∧zt P R all b k e d h'')∧stO P all all[z]? e h' (fun e h''=>(t=true→R h' h'')∧zt P R all c k e d h'')
def okT (G:Nat→Bool)(all:List Oper):PT→Array Bool→Bool
  | .fin,listed=>(Region.ready .any all.toArray listed).isEmpty
  | .quiet i rest,listed=>(Region.ready .any all.toArray listed).contains i&&blkOk all listed i (blk all listed i all.length 0 []) &&
      ((List.range all.length).all fun j=>j == i||listed.getD j true||(blk all listed i all.length 0 []).contains j||(G j&&(match all[i]?,all[j]? with | some oi,some oj=>oi.apart all.toArray oj | _,_=>true))) &&
      okT G all rest (listed.setIfInBounds i true)
  | .pure i rest,listed=>(Region.ready .any all.toArray listed).contains i&&blkOk all listed i (blk all listed i all.length 0 []) &&
      ((List.range all.length).all fun j=>j == i||listed.getD j true||(blk all listed i all.length 0 []).contains j||(match all[i]?,all[j]? with | some oi,some oj=>oi.apart all.toArray oj | _,_=>true)) &&
      okT G all rest (listed.setIfInBounds i true)
  | .one i rest,listed=>!(G i)&&decide (Region.ready .any all.toArray listed=[i])&&okT G all rest (listed.setIfInBounds i true)
  | .keep i rest,listed=>decide (Region.ready .any all.toArray listed=[i])&&okT G all rest (listed.setIfInBounds i true)
  | .fork x y a b,listed=>decide (Region.ready .any all.toArray listed=[x,y])&&(decide (a.size=b.size)&&(okT G all a (listed.setIfInBounds x true)&&okT G all b (listed.setIfInBounds y true)))
  | .fork2 x y u v a b,listed=>(u||!(G x))&&((v||!(G y))&&(decide (Region.ready .any all.toArray listed=[x,y])&&(decide (a.size=b.size)&&(okT G all a (listed.setIfInBounds x true)&&okT G all b (listed.setIfInBounds y true)))))
  | .fork3 x y z u v t a b c,listed=>(u||!(G x))&&((v||!(G y))&&((t||!(G z))&&(decide (Region.ready .any all.toArray listed=[x,y,z])&&(decide (a.size=b.size)&&(decide (a.size=c.size)&&(okT G all a (listed.setIfInBounds x true)&&(okT G all b (listed.setIfInBounds y true)&&okT G all c (listed.setIfInBounds z true))))))))
theorem zaX {all:List Oper}{i:Nat}{e:Env}{d:List Deferred}{w1:World}{Kx:Env→Heap→Prop}{Kf:Act→World→Prop}(H:stO P all all[i]? e w1.heap (fun e h''=>(G i=true→R w1.heap h'')∧Kx e h''))(fin:∀ e' w',Rest w1 w'→Kx e' w'.heap→Kf ⟨e'.toArray,d⟩ w') :
    opD P all.toArray i (fun a' w'=>(G i=true→R w1.heap w'.heap)∧Rest w1 w'∧Kf a' w') ⟨e.toArray,d⟩ w1:=by
  cases hi:all[i]? with
  | none=>rw [hi] at H; exact H.elim
  | some o=>rw [hi] at H; exact opD_any (Kx:=Kx) hi H fin
theorem zll {gd:Option (Nat × Bool)}{all:List Oper}{e:Env}{A A' B B':Env→Prop}(ha:∀ e,A e→A' e)(hb:∀ e,B e→B' e)(H:zK gd all e A B):zK gd all e A' B':=by
  cases gd with
  | none=>unfold zK at H ⊢; exact ha _ H
  | some p=>
    obtain⟨j,want⟩:=p
    unfold zK at H ⊢
    simp only at H ⊢
    cases hj:zaH all j with
    | none=>simp only [hj] at H ⊢; exact hb _ H
    | some t=>
      simp only [hj] at H ⊢
      unfold zw at H ⊢
      cases hv:e.getD t undef with
      | bool b=>
        simp only [hv] at H ⊢
        refine⟨fun h1=>?_,fun h1=>?_⟩
        · have h2:=H.1 h1
          by_cases hw:true=want
          · rw [if_pos hw] at h2 ⊢; exact ha _ h2
          · rw [if_neg hw] at h2 ⊢; exact hb _ h2
        · have h2:=H.2 h1
          by_cases hw:false=want
          · rw [if_pos hw] at h2 ⊢; exact ha _ h2
          · rw [if_neg hw] at h2 ⊢; exact hb _ h2
      | _=>first | (simp only [hv] at H ⊢; done) | (simp only [hv] at H ⊢; exact hb _ H)
theorem zbb {all:List Oper}{o:Option Oper}{e:Env}{h:Heap}{K K':Env→Heap→Prop}(H:stO P all o e h K)(hk:∀ e h,K e h→K' e h):stO P all o e h K':=by
  cases o with
  | none=>exact H.elim
  | some o=>exact zll (fun e he=>opW_mono (fun v h hv=>hk _ _ hv) he) (fun e he=>hk _ _ he) H
theorem zS (hS:Sta R){all:List Oper}{k:Cont}{w0:World}(hsel:Region.noSelect all.toArray=true):∀ (t:PT) (listed:Array Bool) (e:Env) (d:List Deferred) (w:World),Rest w0 w →
    okT G all t listed=true→zt P R all t k e d w.heap →
    anyR P all.toArray R G (fun a w'=>k .normal a.tmps.toList a.defers w'.heap∧Rest w0 w') t.size listed ⟨e.toArray,d⟩ w
  | .fin,listed,e,d,w,hr,hok,H=>fun w1 hr1 hR1=>by
    refine⟨by simpa [okT] using hok,?_,hr.trans hr1⟩
    simpa using H _ hR1
  | .quiet i rest,listed,e,d,w,hr,hok,H=>by
    simp only [okT,Bool.and_eq_true] at hok
    obtain⟨⟨⟨hready,hbk⟩,hG⟩,hok⟩:=hok
    unfold zt at H
    cases hi:all[i]? with
    | none=>simp [hi] at H
    | some o=>
      simp only [hi] at H
      have hi':all.toArray[i]?=some o:=by simpa using hi
      obtain⟨Bk,hBke⟩:∃ Bk,Bk=blk all listed i all.length 0 []:=⟨_,rfl⟩
      rw [← hBke] at hbk hG
      have hb1:∀ j∈Bk,listed.getD j true=false:=fun j hj=>by
        have:=List.all_eq_true.1 hbk j hj
        simp only [Bool.and_eq_true,Bool.not_eq_true'] at this
        exact this.1.1
      have hb2:∀ j∈Bk,j≠i∧∀ oj,all.toArray[j]?=some oj→∃ e∈oj.after,Region.binds .any e=true∧(e.on=i∨e.on∈Bk):=fun j hj=>by
        have:=List.all_eq_true.1 hbk j hj
        simp only [Bool.and_eq_true,bne_iff_ne,ne_eq] at this
        refine⟨this.1.2,fun oj hoj=>?_⟩
        have hj2:all[j]?=some oj:=by simpa using hoj
        have h2:=this.2
        rw [hj2] at h2
        obtain⟨e,he,hb⟩:=Array.any_eq_true'.1 h2
        simp only [Bool.and_eq_true,Bool.or_eq_true,beq_iff_eq,List.contains_eq_mem,decide_eq_true_eq] at hb
        exact⟨e,he,hb.1,hb.2⟩
      have hfr:∀ j oj,all.toArray[j]?=some oj→j≠i→listed.getD j true=false→j ∉ Bk→o.apart all.toArray oj=true∧G j=true:=by
        intro j oj hj hne hun hno
        have hlt:j<all.length:=by have:=(Array.getElem?_eq_some_iff.1 hj).1; simpa using this
        have:=List.all_eq_true.1 hG j (List.mem_range.2 hlt)
        have hj2:all[j]?=some oj:=by simpa using hj
        simp only [hi,hj2,Bool.or_eq_true,Bool.and_eq_true,beq_iff_eq,hne,false_or,hun,Bool.false_eq_true,List.contains_eq_mem,decide_eq_true_eq,hno] at this
        exact⟨this.2,this.1⟩
      have hrdy:i∈Region.ready .any all.toArray listed:=by simpa using hready
      rcases zay H o rfl with⟨hw,hA⟩ | ⟨hw,hB⟩
      · have hq:=zhd hS hA
        unfold opQS at hq
        obtain⟨v,hv,hk⟩:=hq
        refine zcZ hS hi' (Region.noSelect_spec hsel) Bk hb2 rest.size listed _ w hfr hb1 hrdy (v:=v) ?_ ?_
        · refine .inl ⟨hw,fun w' hr' hR'=>?_⟩
          have h1:=hv _ hR'
          refine⟨h1.1,?_⟩
          have h2:=h1.2 w' rfl
          rw [zaw,zaq]
          unfold zaG at h2
          unfold zaK
          split at h2
          · exact h2
          · exact h2
          · exact h2
          · exact h2
          · exact h2.elim
        · rw [zI]
          exact zS hS hsel rest _ _ d w hr hok hk
      · refine zcZ hS hi' (Region.noSelect_spec hsel) Bk hb2 rest.size listed _ w hfr hb1 hrdy (v:=undef) (.inr ⟨hw,rfl⟩) ?_
        rw [zI]
        exact zS hS hsel rest _ _ d w hr hok hB
  | .pure i rest,listed,e,d,w,hr,hok,H=>by
    simp only [okT,Bool.and_eq_true] at hok
    obtain⟨⟨⟨hready,hbk⟩,hG⟩,hok⟩:=hok
    unfold zt at H
    cases hi:all[i]? with
    | none=>simp [hi] at H
    | some o=>
      simp only [hi] at H
      have hi':all.toArray[i]?=some o:=by simpa using hi
      obtain⟨Bk,hBke⟩:∃ Bk,Bk=blk all listed i all.length 0 []:=⟨_,rfl⟩
      rw [← hBke] at hbk hG
      have hb1:∀ j∈Bk,listed.getD j true=false:=fun j hj=>by
        have:=List.all_eq_true.1 hbk j hj
        simp only [Bool.and_eq_true,Bool.not_eq_true'] at this
        exact this.1.1
      have hb2:∀ j∈Bk,j≠i∧∀ oj,all.toArray[j]?=some oj→∃ e∈oj.after,Region.binds .any e=true∧(e.on=i∨e.on∈Bk):=fun j hj=>by
        have:=List.all_eq_true.1 hbk j hj
        simp only [Bool.and_eq_true,bne_iff_ne,ne_eq] at this
        refine⟨this.1.2,fun oj hoj=>?_⟩
        have hj2:all[j]?=some oj:=by simpa using hoj
        have h2:=this.2
        rw [hj2] at h2
        obtain⟨e,he,hb⟩:=Array.any_eq_true'.1 h2
        simp only [Bool.and_eq_true,Bool.or_eq_true,beq_iff_eq,List.contains_eq_mem,decide_eq_true_eq] at hb
        exact⟨e,he,hb.1,hb.2⟩
      have hfr:∀ j oj,all.toArray[j]?=some oj→j≠i→listed.getD j true=false→j ∉ Bk→o.apart all.toArray oj=true:=by
        intro j oj hj hne hun hno
        have hlt:j<all.length:=by have:=(Array.getElem?_eq_some_iff.1 hj).1; simpa using this
        have:=List.all_eq_true.1 hG j (List.mem_range.2 hlt)
        have hj2:all[j]?=some oj:=by simpa using hj
        simp only [hi,hj2,Bool.or_eq_true,Bool.and_eq_true,beq_iff_eq,hne,false_or,hun,Bool.false_eq_true,List.contains_eq_mem,decide_eq_true_eq,hno] at this
        exact this
      have hrdy:i∈Region.ready .any all.toArray listed:=by simpa using hready
      rcases zay H o rfl with⟨hw,hA⟩ | ⟨hw,hB⟩
      · obtain⟨hd,v,hk,hv⟩:=zhu (ty:=o.type) hA
        refine zcz hS hi' (Region.noSelect_spec hsel) Bk hb2 rest.size listed _ w hfr hb1 hrdy (v:=v) ?_ ?_
        · refine .inl ⟨hw,fun w' hr'=>⟨hd,?_⟩⟩
          rw [zaw,zaq,hv w']
          exact⟨⟨rfl,rfl⟩,Rest.refl _⟩
        · rw [zI]
          exact zS hS hsel rest _ _ d w hr hok hk
      · refine zcz hS hi' (Region.noSelect_spec hsel) Bk hb2 rest.size listed _ w hfr hb1 hrdy (v:=undef) (.inr ⟨hw,rfl⟩) ?_
        rw [zI]
        exact zS hS hsel rest _ _ d w hr hok hB
  | .one i rest,listed,e,d,w,hr,hok,H=>by
    intro w1 hr1 hR1
    simp only [okT,Bool.and_eq_true,decide_eq_true_eq,Bool.not_eq_true'] at hok
    obtain⟨⟨hG,h1⟩,hok⟩:=hok
    rw [h1]
    refine⟨fun h=>by simp at h,fun q hq=>?_⟩
    have hq:q=i:=by simpa using hq
    subst hq
    refine zaX (Kx:=fun e h''=>zt P R all rest k e d h'') (zbb (H _ hR1) fun e h hk=>⟨fun hh=>(by rw [hG] at hh; cases hh),hk⟩) fun e2 w2 hr2 K2=>?_
    exact zS hS hsel rest _ _ d w2 (hr.trans (hr1.trans hr2)) hok K2
  | .keep i rest,listed,e,d,w,hr,hok,H=>by
    intro w1 hr1 hR1
    simp only [okT,Bool.and_eq_true,decide_eq_true_eq] at hok
    obtain⟨h1,hok⟩:=hok
    rw [h1]
    refine⟨fun h=>by simp at h,fun q hq=>?_⟩
    have hq:q=i:=by simpa using hq
    subst hq
    refine zaX (Kx:=fun e h''=>zt P R all rest k e d h'') (zbb (H _ hR1) fun e h hk=>⟨fun _=>hk.1,hk.2⟩) fun e2 w2 hr2 K2=>?_
    exact zS hS hsel rest _ _ d w2 (hr.trans (hr1.trans hr2)) hok K2
  | .fork x y a b,listed,e,d,w,hr,hok,H=>by
    intro w1 hr1 hR1
    simp only [okT,Bool.and_eq_true,decide_eq_true_eq] at hok
    obtain⟨h1,h2,o1,o2⟩:=hok
    obtain⟨A,B⟩:=H _ hR1
    rw [h1]
    refine⟨fun h=>by simp at h,fun q hq=>?_⟩
    have hq:q=x∨q=y:=by simpa using hq
    rcases hq with rfl | rfl
    · refine zaX (Kx:=fun e h''=>zt P R all a k e d h'') (zbb A fun e h hk=>⟨fun _=>hk.1,hk.2⟩) fun e2 w2 hr2 K2=>?_
      exact zS hS hsel a _ _ d w2 (hr.trans (hr1.trans hr2)) o1 K2
    · refine zaX (Kx:=fun e h''=>zt P R all b k e d h'') (zbb B fun e h hk=>⟨fun _=>hk.1,hk.2⟩) fun e2 w2 hr2 K2=>?_
      have:=zS (w0:=w0) hS hsel b _ _ d w2 (hr.trans (hr1.trans hr2)) o2 K2
      rw [← h2] at this
      exact this
  | .fork2 x y u v a b,listed,e,d,w,hr,hok,H=>by
    intro w1 hr1 hR1
    simp only [okT,Bool.and_eq_true,decide_eq_true_eq,Bool.or_eq_true,Bool.not_eq_true'] at hok
    obtain⟨gx,gy,h1,h2,o1,o2⟩:=hok
    obtain⟨A,B⟩:=H _ hR1
    rw [h1]
    refine⟨fun h=>by simp at h,fun q hq=>?_⟩
    have hq:q=x∨q=y:=by simpa using hq
    rcases hq with rfl | rfl
    · refine zaX (Kx:=fun e h''=>zt P R all a k e d h'') (zbb A fun e h hk=>⟨fun hh=>hk.1 (gx.resolve_right (by rw [hh]; decide)),hk.2⟩) fun e2 w2 hr2 K2=>?_
      exact zS hS hsel a _ _ d w2 (hr.trans (hr1.trans hr2)) o1 K2
    · refine zaX (Kx:=fun e h''=>zt P R all b k e d h'') (zbb B fun e h hk=>⟨fun hh=>hk.1 (gy.resolve_right (by rw [hh]; decide)),hk.2⟩) fun e2 w2 hr2 K2=>?_
      have:=zS (w0:=w0) hS hsel b _ _ d w2 (hr.trans (hr1.trans hr2)) o2 K2
      rw [← h2] at this
      exact this
  | .fork3 x y z u v t a b c,listed,e,d,w,hr,hok,H=>by
    intro w1 hr1 hR1
    simp only [okT,Bool.and_eq_true,decide_eq_true_eq,Bool.or_eq_true,Bool.not_eq_true'] at hok
    obtain⟨gx,gy,gz,h1,h2,h3,o1,o2,o3⟩:=hok
    obtain⟨A,B,C⟩:=H _ hR1
    rw [h1]
    refine⟨fun h=>by simp at h,fun q hq=>?_⟩
    have hq:q=x∨q=y∨q=z:=by simpa using hq
    rcases hq with rfl | rfl | rfl
    · refine zaX (Kx:=fun e h''=>zt P R all a k e d h'') (zbb A fun e h hk=>⟨fun hh=>hk.1 (gx.resolve_right (by rw [hh]; decide)),hk.2⟩) fun e2 w2 hr2 K2=>?_
      exact zS hS hsel a _ _ d w2 (hr.trans (hr1.trans hr2)) o1 K2
    · refine zaX (Kx:=fun e h''=>zt P R all b k e d h'') (zbb B fun e h hk=>⟨fun hh=>hk.1 (gy.resolve_right (by rw [hh]; decide)),hk.2⟩) fun e2 w2 hr2 K2=>?_
      have:=zS (w0:=w0) hS hsel b _ _ d w2 (hr.trans (hr1.trans hr2)) o2 K2
      rw [← h2] at this
      exact this
    · refine zaX (Kx:=fun e h''=>zt P R all c k e d h'') (zbb C fun e h hk=>⟨fun hh=>hk.1 (gz.resolve_right (by rw [hh]; decide)),hk.2⟩) fun e2 w2 hr2 K2=>?_
      have:=zS (w0:=w0) hS hsel c _ _ d w2 (hr.trans (hr1.trans hr2)) o3 K2
      rw [← h3] at this
      exact this
theorem zhU (hm:P.follows .mixedOrders=true)(hS:Sta R){id:Nat}{all:List Oper}{k:Cont}{e:Env}{d:List Deferred}{h:Heap}(t:PT)
    (hsel:Region.noSelect all.toArray=true) (hlen:t.size=all.length) (hok:okT t.G all t (Array.replicate all.length false)=true)
    (H:zt P R all t k e d h):WP l P (.region id all.toArray true) k e d h:=by
  unfold WP
  intro w hw
  subst hw
  refine wpIn_region_any hm ?_
  have h1:=zS (w0:=w) (G:=t.G) hS hsel t _ e d { w with drawn:=w.drawn+1 } ⟨rfl,rfl,rfl⟩ hok H
  rw [hlen] at h1
  have h2:=zcM (l:=l) (Q':=fun x a w'=>k x a.tmps.toList a.defers w'.heap∧Rest w w') hS (fun a w' hq=>hq) _ _ _ _ h1
  simpa using h2
variable {all:List Oper} {rest:PT} {k:Cont} {e:Env} {d:List Deferred} {h:Heap} {dst:Option Tmp} {op:Op} {ty:TypeId} {pos:String} {after:Array Edge} {i x y:Nat} {a b:PT}
def setT (P:Program)(R:Heap→Heap→Prop)(all:List Oper)(rest:PT)(k:Cont)(dst:Option Tmp)(e:Env)(d:List Deferred):Value→Heap→Prop:=fun v h=>zt P R all rest k (putE e dst v) d h
theorem setT_eq {v:Value}:setT P R all rest k dst e d v h=zt P R all rest k (putE e dst v) d h:=eqi rfl
def stT (P:Program)(R:Heap→Heap→Prop)(o:Option Oper)(all:List Oper)(rest:PT)(k:Cont)(e:Env)(d:List Deferred)(h:Heap):Prop:=
  match o with
  | some o=>zK o.guard all e (fun e=>opQW P R o.op o.type e h (fun v h'=>setT P R all rest k o.dst e d v h')) (fun e=>zt P R all rest k (putE e o.dst undef) d h)
  | none=>False
theorem zlv:zt P R all (.quiet i rest) k e d h=stT P R all[i]? all rest k e d h:=by simp only [zt,stT,setT]
theorem znu:stT P R (some ⟨dst,op,ty,pos,after,none⟩) all rest k e d h=opQW P R op ty e h (setT P R all rest k dst e d):=by simp only [stT,zK]
def stTp (P:Program)(R:Heap→Heap→Prop)(o:Option Oper)(all:List Oper)(rest:PT)(k:Cont)(e:Env)(d:List Deferred)(h:Heap):Prop:=
  match o with
  | some o=>zK o.guard all e (fun e=>opPW P o.op e h (fun v h'=>setT P R all rest k o.dst e d v h')) (fun e=>zt P R all rest k (putE e o.dst undef) d h)
  | none=>False
theorem zmz:zt P R all (.pure i rest) k e d h=stTp P R all[i]? all rest k e d h:=by simp only [zt,stTp,setT]
theorem zmI:stTp P R (some ⟨dst,op,ty,pos,after,none⟩) all rest k e d h=opPW P op e h (setT P R all rest k dst e d):=by simp only [stTp,zK]
theorem zod {K:Env→Heap→Prop}:stO P all (some ⟨dst,op,ty,pos,after,none⟩) e h K=opW P op ty e h (fun v h'=>K (putE e dst v) h'):=by simp only [stO,zK]
def gtT (P:Program)(R:Heap→Heap→Prop)(v:Value)(s:Tmp)(want:Bool)(op:Op)(ty:TypeId)(all:List Oper)(rest:PT)(k:Cont)(dst:Option Tmp)(e:Env)(d:List Deferred)(h:Heap):Prop:=
  zw v (fun b=>if b=want then opQW P R op ty (e.set s (.bool b)) h (setT P R all rest k dst (e.set s (.bool b)) d) else zt P R all rest k (putE (e.set s (.bool b)) dst undef) d h) (zt P R all rest k (putE e dst undef) d h)
def gtTo (P:Program)(R:Heap→Heap→Prop)(s:Option Tmp)(want:Bool)(op:Op)(ty:TypeId)(all:List Oper)(rest:PT)(k:Cont)(dst:Option Tmp)(e:Env)(d:List Deferred)(h:Heap):Prop:=
  match s with | some s=>gtT P R (e.getD s undef) s want op ty all rest k dst e d h | none=>zt P R all rest k (putE e dst undef) d h
theorem znF {j:Nat}{want:Bool}:stT P R (some ⟨dst,op,ty,pos,after,some (j,want)⟩) all rest k e d h=gtTo P R (zaH all j) want op ty all rest k dst e d h:=by
  simp only [stT,zK,gtTo]; cases zaH all j <;> rfl
theorem zn4 {s:Tmp}{want:Bool}:gtTo P R (some s) want op ty all rest k dst e d h=gtT P R (e.getD s undef) s want op ty all rest k dst e d h:=eqi rfl
theorem gtT_tt {s:Tmp}:gtT P R (.bool true) s true op ty all rest k dst e d h=opQW P R op ty (e.set s (.bool true)) h (setT P R all rest k dst (e.set s (.bool true)) d):=by simp [gtT,zw]
theorem gtT_ff {s:Tmp}:gtT P R (.bool false) s false op ty all rest k dst e d h=opQW P R op ty (e.set s (.bool false)) h (setT P R all rest k dst (e.set s (.bool false)) d):=by simp [gtT,zw]
theorem gtT_tf {s:Tmp}:gtT P R (.bool true) s false op ty all rest k dst e d h=zt P R all rest k (putE (e.set s (.bool true)) dst undef) d h:=by simp [gtT,zw]
theorem gtT_ft {s:Tmp}:gtT P R (.bool false) s true op ty all rest k dst e d h=zt P R all rest k (putE (e.set s (.bool false)) dst undef) d h:=by simp [gtT,zw]
theorem zo2 {s:Tmp}{w:Bool}{vs:Array Value}:gtT P R (.tuple vs) s w op ty all rest k dst e d h=zt P R all rest k (putE e dst undef) d h:=by simp [gtT,zw]
def gtP (P:Program)(R:Heap→Heap→Prop)(v:Value)(s:Tmp)(want:Bool)(op:Op)(all:List Oper)(rest:PT)(k:Cont)(dst:Option Tmp)(e:Env)(d:List Deferred)(h:Heap):Prop:=
  zw v (fun b=>if b=want then opPW P op (e.set s (.bool b)) h (setT P R all rest k dst (e.set s (.bool b)) d) else zt P R all rest k (putE (e.set s (.bool b)) dst undef) d h) (zt P R all rest k (putE e dst undef) d h)
def gtPo (P:Program)(R:Heap→Heap→Prop)(s:Option Tmp)(want:Bool)(op:Op)(all:List Oper)(rest:PT)(k:Cont)(dst:Option Tmp)(e:Env)(d:List Deferred)(h:Heap):Prop:=
  match s with | some s=>gtP P R (e.getD s undef) s want op all rest k dst e d h | none=>zt P R all rest k (putE e dst undef) d h
theorem znp {j:Nat}{want:Bool}:stTp P R (some ⟨dst,op,ty,pos,after,some (j,want)⟩) all rest k e d h=gtPo P R (zaH all j) want op all rest k dst e d h:=by
  simp only [stTp,zK,gtPo]; cases zaH all j <;> rfl
theorem zoC {s:Tmp}{want:Bool}:gtPo P R (some s) want op all rest k dst e d h=gtP P R (e.getD s undef) s want op all rest k dst e d h:=eqi rfl
theorem gtP_tt {s:Tmp}:gtP P R (.bool true) s true op all rest k dst e d h=opPW P op (e.set s (.bool true)) h (setT P R all rest k dst (e.set s (.bool true)) d):=by simp [gtP,zw]
theorem gtP_ff {s:Tmp}:gtP P R (.bool false) s false op all rest k dst e d h=opPW P op (e.set s (.bool false)) h (setT P R all rest k dst (e.set s (.bool false)) d):=by simp [gtP,zw]
theorem gtP_tf {s:Tmp}:gtP P R (.bool true) s false op all rest k dst e d h=zt P R all rest k (putE (e.set s (.bool true)) dst undef) d h:=by simp [gtP,zw]
theorem gtP_ft {s:Tmp}:gtP P R (.bool false) s true op all rest k dst e d h=zt P R all rest k (putE (e.set s (.bool false)) dst undef) d h:=by simp [gtP,zw]
theorem znU {s:Tmp}{w:Bool}{vs:Array Value}:gtP P R (.tuple vs) s w op all rest k dst e d h=zt P R all rest k (putE e dst undef) d h:=by simp [gtP,zw]
def gtO (P:Program)(v:Value)(s:Tmp)(want:Bool)(op:Op)(ty:TypeId)(dst:Option Tmp)(e:Env)(h:Heap)(K:Env→Heap→Prop):Prop:=
  zw v (fun b=>if b=want then opW P op ty (e.set s (.bool b)) h (fun v h'=>K (putE (e.set s (.bool b)) dst v) h') else K (putE (e.set s (.bool b)) dst undef) h) (K (putE e dst undef) h)
def gtOo (P:Program)(s:Option Tmp)(want:Bool)(op:Op)(ty:TypeId)(dst:Option Tmp)(e:Env)(h:Heap)(K:Env→Heap→Prop):Prop:=
  match s with | some s=>gtO P (e.getD s undef) s want op ty dst e h K | none=>K (putE e dst undef) h
theorem znP {j:Nat}{want:Bool}{K:Env→Heap→Prop}:stO P all (some ⟨dst,op,ty,pos,after,some (j,want)⟩) e h K=gtOo P (zaH all j) want op ty dst e h K:=by
  simp only [stO,zK,gtOo]; cases zaH all j <;> rfl
theorem zoO {s:Tmp}{want:Bool}{K:Env→Heap→Prop}:gtOo P (some s) want op ty dst e h K=gtO P (e.getD s undef) s want op ty dst e h K:=eqi rfl
theorem gtO_tt {s:Tmp}{K:Env→Heap→Prop}:gtO P (.bool true) s true op ty dst e h K=opW P op ty (e.set s (.bool true)) h (fun v h'=>K (putE (e.set s (.bool true)) dst v) h'):=by simp [gtO,zw]
theorem gtO_ff {s:Tmp}{K:Env→Heap→Prop}:gtO P (.bool false) s false op ty dst e h K=opW P op ty (e.set s (.bool false)) h (fun v h'=>K (putE (e.set s (.bool false)) dst v) h'):=by simp [gtO,zw]
theorem gtO_tf {s:Tmp}{K:Env→Heap→Prop}:gtO P (.bool true) s false op ty dst e h K=K (putE (e.set s (.bool true)) dst undef) h:=by simp [gtO,zw]
theorem gtO_ft {s:Tmp}{K:Env→Heap→Prop}:gtO P (.bool false) s true op ty dst e h K=K (putE (e.set s (.bool false)) dst undef) h:=by simp [gtO,zw]
theorem zoP {s:Tmp}{w:Bool}{vs:Array Value}{K:Env→Heap→Prop}:gtO P (.tuple vs) s w op ty dst e h K=K (putE e dst undef) h:=by simp [gtO,zw]
set_option linter.defProp false
def zba:=And.intro (And.intro (And.intro @zlv @zmz) (And.intro (And.intro @znu @zmI) (And.intro (And.intro @znF @znp) (And.intro @zod @znP))))
  (And.intro (And.intro (And.intro @zn4 @zoC) (And.intro @zoO @setT_eq)) (And.intro (And.intro (And.intro @gtT_tt @gtT_ff) (And.intro @gtT_tf (And.intro @gtT_ft @zo2))) (And.intro (And.intro (And.intro @gtP_tt @gtP_ff) (And.intro @gtP_tf (And.intro @gtP_ft @znU))) (And.intro (And.intro @gtO_tt @gtO_ff) (And.intro @gtO_tf (And.intro @gtO_ft @zoP))))))
theorem zir (H:∀ h',R h h'→k .normal e d h'):zt P R all .fin k e d h:=H
theorem zeS (H:∀ h',R h h'→stO P all all[i]? e h' (fun e h''=>zt P R all rest k e d h'')):zt P R all (.one i rest) k e d h:=H
theorem zht (H:∀ h',R h h'→stO P all all[i]? e h' (fun e h''=>R h' h''∧zt P R all rest k e d h'')):zt P R all (.keep i rest) k e d h:=H
theorem eqh {p:Heap→Prop}(H:p h):∀ h',EqH h h'→p h':=fun h' hh=>by rw [show h'=h from hh]; exact H
theorem zgF (H:k .normal e d h):zt P EqH all .fin k e d h:=eqh H
theorem zlD (H:stO P all all[i]? e h (fun e h''=>EqH h h''∧zt P EqH all rest k e d h'')):zt P EqH all (.keep i rest) k e d h:=eqh (p:=fun h=>stO P all all[i]? e h (fun e h''=>EqH h h''∧zt P EqH all rest k e d h'')) H
end tree
section fresh
variable {P:Program} {h:Heap} {er:Env} {ty:TypeId}
end fresh
end Go.Eng
end
section
namespace Go.Proofs.YtepaekbjoombpaaGreatDoor
open Go Go.Proofs Go.Eng Tab Go.RowKit
set_option maxRecDepth 100000
set_option linter.unusedSimpArgs false
set_option linter.unusedVariables false
set_option maxHeartbeats 2000000
set_option linter.defProp false
def zca:=(And.intro (And.intro (And.intro @by3 @inf3) (And.intro @sz3 @zfO)) (And.intro (And.intro @Tryz.underlying3 @Tryz.underlying5) (And.intro @Tryz.underlying9 @Tryz.underlying40)))
def at_ (s:ByteArray)(i:Nat):Nat:=(s.data.getD i 0).toNat
def zT (s:ByteArray):Bool:=decide (3≤s.size)&&text (s.extract 0 (s.size - 2))&&decide (at_ s (s.size - 2)=32)&&decide (97≤at_ s (s.size - 1))&&decide (at_ s (s.size - 1)≤109)
theorem bang (s:ByteArray)(i:Nat)(hi:i<s.size):(s.data[i]!).toNat=at_ s i:=by
  have hi':i<s.data.size:=hi
  rw [at_,getElem!_pos s.data i hi',Array.getD_eq_getD_getElem?,Array.getElem?_eq_getElem hi',Option.getD_some]
theorem zc5 (s:ByteArray)(i j:Nat)(h:i≤j)(hj:j≤s.size):(s.extract i j).size=j - i:=by
  rw [ByteArray.size_extract]; omega
theorem ze5 {s:ByteArray}(h:text s=true):1≤s.size∧s.size≤12:=((zbO s).1 h).1
theorem zY (s:ByteArray):zT s=true↔3≤s.size∧text (s.extract 0 (s.size - 2))=true∧at_ s (s.size - 2)=32∧97≤at_ s (s.size - 1)∧at_ s (s.size - 1)≤109:=by
  simp only [zT,Bool.and_eq_true,decide_eq_true_eq,and_assoc]
theorem zgb {s:ByteArray}(h:zT s=true):Lib.lastIndexByte s 32=((s.size - 2:Nat):Int):=by
  obtain⟨h3,_,hb,h97,_⟩:=(zY s).1 h
  obtain⟨n,hn⟩:∃ n,s.size=n+2:=⟨s.size - 2,by omega⟩
  rw [hn] at hb h97 ⊢
  rw [Lib.lastIndexByte,hn,Lib.lastIdx_miss _ _ _ (by rw [bang s _ (by omega)]; rw [show n+2 - 1=n+1 by omega] at h97; omega),Lib.lastIdx_hit _ _ _ (by rw [bang s _ (by omega)]; rw [show n+2 - 2=n by omega] at hb; omega)]
  rfl
theorem cut85 (s:ByteArray)(h:Eng.Heap)(hs:s.size≤1000):zb Tryz.prog 85 #[.string s] h (fun v h'=>v=(if zT s then .tuple #[.string (s.extract 0 (s.size - 2)),.string (s.extract (s.size - 1) s.size),.bool true] else .tuple #[.string ⟨#[]⟩,.string ⟨#[]⟩,.bool false])∧Ext h h'):=by
  (refine zh Tryz.func85 rfl bod85 ?_; simp only [Tryz.ntmps85,Tryz.results85,za,zm,splice,Value.cells,Value.oneCell',Nat.reduceAdd,Nat.reduceSub,Nat.reduceMul,Nat.reduceLeDiff,Int.reduceEq,Nat.reduceEqDiff,zca])
  refine zb.mono (last116 s 32 h (by omega)) ?_
  rintro v h1 ⟨rfl,rfl⟩
  have no:∀ {h2:Eng.Heap},zT s=false→Ext h1 h2→(Value.tuple #[.string ⟨#[]⟩,.string ⟨#[]⟩,.bool false]=(if zT s then .tuple #[.string (s.extract 0 (s.size - 2)),.string (s.extract (s.size - 1) s.size),.bool true] else .tuple #[.string ⟨#[]⟩,.string ⟨#[]⟩,.bool false])∧Ext h1 h2):=fun e x=>⟨by rw [e]; rfl,x⟩
  rcases Lib.lastIndexByte_spec s 32 with⟨hL,_⟩ | ⟨i,hi,hL,hbl,_⟩
  · have hf:zT s=false:=by
      rw [Bool.eq_false_iff]
      intro hh
      have:=zgb hh
      rw [hL] at this
      omega
    have hneg:(-1:Int)<0:=by decide
    simp only [hL,hneg,zn,decide_true,za,Value.cells,Value.oneCell',Nat.reduceAdd,Nat.reduceSub,Nat.reduceMul,Nat.reduceLeDiff,Int.reduceEq,Nat.reduceEqDiff,zca]
    exact no hf (Ext.refl _)
  · have hneg:¬ (i:Int)<0:=by omega
    by_cases hn:(s.size:Int)=(i:Int)+2
    · obtain rfl:i=s.size - 2:=by omega
      have e1:((s.size - 2:Nat):Int)+1=((s.size - 1:Nat):Int):=by omega
      rw [bang s _ hi] at hbl
      simp only [hL,hneg,hn,zn,Int.toNat_natCast,decide_true,decide_false,Bool.not_true,za,Value.cells,Value.oneCell',Nat.reduceAdd,Nat.reduceSub,Nat.reduceMul,Nat.reduceLeDiff,Int.reduceEq,Nat.reduceEqDiff,zca]
      refine⟨by rw [zg]; omega,by decide,by omega,by omega,?_⟩
      have z0:((0:Nat):Int).toNat=0:=rfl
      have hx:(s.extract 0 (s.size - 2)).size≤1000:=by rw [zc5 _ _ _ (by omega) (by omega)]; omega
      refine zb.mono (isText82 (s.extract 0 (s.size - 2)) h1 (by omega)) ?_
      rintro v h2 ⟨rfl,x2⟩
      cases ht:text (s.extract 0 (s.size - 2)) with
      | false=>
        have hf:zT s=false:=by rw [zT,ht]; simp
        simp only [zn,Bool.not_false,za,Value.cells,Value.oneCell',Nat.reduceAdd,Nat.reduceSub,Nat.reduceMul,Nat.reduceLeDiff,Int.reduceEq,Nat.reduceEqDiff,zca]
        exact no hf x2
      | true=>
        have h3:3≤s.size:=by
          have:=ze5 ht
          rw [zc5 _ _ _ (by omega) (by omega)] at this
          omega
        have hat:(s.data.getD (s.size - 1) 0).toNat=at_ s (s.size - 1):=rfl
        simp only [e1,hat,Int.toNat_natCast,Bool.not_true,za,Value.cells,Value.oneCell',Nat.reduceAdd,Nat.reduceSub,Nat.reduceMul,Nat.reduceLeDiff,Int.reduceEq,Nat.reduceEqDiff,zca]
        have hlt:=(s.data.getD (s.size - 1) 0).toNat_lt
        rw [hat] at hlt
        refine⟨by rw [zg]; omega,⟨by omega,by omega⟩,by rw [zg]; omega,?_⟩
        refine zb.mono (zci 97 109 (some ⟨h2.size,0,none⟩) 1 1 [(at_ s (s.size - 1):Int)] _ (zcJ zy) (by omega)) ?_
        rintro v h4 ⟨rfl,x4⟩
        have x4':=x2.trans x4.of_push
        have e0:((s.size:Nat):Int) - 2=((s.size - 2:Nat):Int):=by omega
        by_cases hw:97≤(at_ s (s.size - 1):Int)∧(at_ s (s.size - 1):Int)≤109
        · have hok:zT s=true:=(zY s).2 ⟨h3,ht,by omega,by omega,by omega⟩
          simp only [za5,hw,decide_true,Bool.not_true,za,Value.cells,Value.oneCell',Nat.reduceAdd,Nat.reduceSub,Nat.reduceMul,Nat.reduceLeDiff,Int.reduceEq,Nat.reduceEqDiff,zca]
          refine zco (by kernel_rfl) zgU [(0,0),(1,0),(2,0),(3,0),(4,0),(5,0),(6,0),(7,0),(8,0),(9,0)] (by kernel_rfl) rfl (by kernel_rfl) ?_
          simp only [e1,Int.toNat_natCast,za,Value.cells,Value.oneCell',Nat.reduceAdd,Nat.reduceSub,Nat.reduceMul,Nat.reduceLeDiff,Int.reduceEq,Nat.reduceEqDiff,zC,zca]
          exact⟨by decide,by omega,by omega,by rw [zg]; omega,by omega,by omega,by omega,by rw [hok]; rfl,x4'⟩
        · have hf:zT s=false:=by
            rw [Bool.eq_false_iff]
            intro hh
            have:=((zY s).1 hh).2.2.2
            exact hw ⟨by omega,by omega⟩
          simp only [za5,hw,decide_false,Bool.not_false,za,Value.cells,Value.oneCell',Nat.reduceAdd,Nat.reduceSub,Nat.reduceMul,Nat.reduceLeDiff,Int.reduceEq,Nat.reduceEqDiff,zca]
          exact no hf x4'
    · have hf:zT s=false:=by
        rw [Bool.eq_false_iff]
        intro hh
        have h2:=zgb hh
        have h3:=((zY s).1 hh).1
        rw [hL] at h2
        omega
      simp only [hL,hneg,hn,zn,decide_false,Bool.not_false,za,Value.cells,Value.oneCell',Nat.reduceAdd,Nat.reduceSub,Nat.reduceMul,Nat.reduceLeDiff,Int.reduceEq,Nat.reduceEqDiff,zca]
      exact⟨by rw [zg]; omega,no hf (Ext.refl _)⟩
theorem line86 (s:ByteArray)(h:Eng.Heap)(hs:s.size≤1000):zb Tryz.prog 86 #[.string s] h (fun v h'=>v=.bool (zT s)∧h'=h):=by
  (refine zh Tryz.func86 rfl bod86 ?_; simp only [Tryz.ntmps86,Tryz.results86,za,zm,splice,Value.cells,Value.oneCell',Nat.reduceAdd,Nat.reduceSub,Nat.reduceMul,Nat.reduceLeDiff,Int.reduceEq,Nat.reduceEqDiff,Tryz.underlying9])
  by_cases h3:3≤s.size
  · have h3':(3:Int)≤s.size:=by omega
    have e2:((s.size:Nat):Int) - 2=((s.size - 2:Nat):Int):=by omega
    have e1:((s.size:Nat):Int) - 1=((s.size - 1:Nat):Int):=by omega
    simp only [h3',e1,e2,zn,decide_true,Int.toNat_natCast,za,Value.cells,Value.oneCell',Nat.reduceAdd,Nat.reduceSub,Nat.reduceMul,Nat.reduceLeDiff,Int.reduceEq,Nat.reduceEqDiff,Tryz.underlying9]
    refine⟨by rw [zg]; omega,by decide,by omega,by omega,?_⟩
    have hx:(s.extract 0 (s.size - 2)).size≤1000:=by rw [zc5 _ _ _ (by omega) (by omega)]; omega
    refine zb.mono (isText84 (s.extract 0 (s.size - 2)) h (by omega)) ?_
    rintro v h1 ⟨rfl,rfl⟩
    cases ht:text (s.extract 0 (s.size - 2)) with
    | false=>
      have hf:zT s=false:=by rw [zT,ht]; simp
      simp only [hf,zn,za,Value.cells,Value.oneCell',Nat.reduceAdd,Nat.reduceSub,Nat.reduceMul,Nat.reduceLeDiff,Int.reduceEq,Nat.reduceEqDiff,Tryz.underlying9]
    | true=>
      have ha2:(s.data.getD (s.size - 2) 0).toNat=at_ s (s.size - 2):=rfl
      have ha1:(s.data.getD (s.size - 1) 0).toNat=at_ s (s.size - 1):=rfl
      by_cases hb:(at_ s (s.size - 2):Int)=32
      · by_cases h97:(97:Int)≤(at_ s (s.size - 1):Int)
        · have hd:zT s=decide ((at_ s (s.size - 1):Int)≤109):=by
            rw [Bool.eq_iff_iff,zY,decide_eq_true_eq]
            exact⟨fun hh=>by omega,fun hh=>⟨h3,ht,by omega,by omega,by omega⟩⟩
          rw [hd]
          simp only [e1,e2,ha1,ha2,hb,h97,zn,decide_true,Int.toNat_natCast,za,Value.cells,Value.oneCell',Nat.reduceAdd,Nat.reduceSub,Nat.reduceMul,Nat.reduceLeDiff,Int.reduceEq,Nat.reduceEqDiff,Tryz.underlying9]
          refine⟨by rw [zg]; omega,⟨by omega,by omega⟩,by rw [zg]; omega,⟨by omega,by omega⟩,by rw [zg]; omega,by omega,by omega⟩
        · have hf:zT s=false:=by
            rw [Bool.eq_false_iff]
            intro hh
            have:=((zY s).1 hh).2.2.2.1
            omega
          simp only [e1,e2,ha1,ha2,hb,h97,hf,zn,decide_true,decide_false,Int.toNat_natCast,za,Value.cells,Value.oneCell',Nat.reduceAdd,Nat.reduceSub,Nat.reduceMul,Nat.reduceLeDiff,Int.reduceEq,Nat.reduceEqDiff,Tryz.underlying9]
          refine⟨by rw [zg]; omega,⟨by omega,by omega⟩,by rw [zg]; omega,by omega,by omega⟩
      · have hf:zT s=false:=by
          rw [Bool.eq_false_iff]
          intro hh
          have:=((zY s).1 hh).2.2.1
          omega
        simp only [e2,ha2,hb,hf,zn,decide_false,Int.toNat_natCast,za,Value.cells,Value.oneCell',Nat.reduceAdd,Nat.reduceSub,Nat.reduceMul,Nat.reduceLeDiff,Int.reduceEq,Nat.reduceEqDiff,Tryz.underlying9]
        exact⟨by rw [zg]; omega,by omega,by omega⟩
  · have h3':¬ (3:Int)≤s.size:=by omega
    have hf:zT s=false:=by rw [zT,decide_eq_false h3]; rfl
    simp only [h3',hf,zn,decide_false,za,Value.cells,Value.oneCell',Nat.reduceAdd,Nat.reduceSub,Nat.reduceMul,Nat.reduceLeDiff,Int.reduceEq,Nat.reduceEqDiff,Tryz.underlying9]
def zbx (s:ByteArray):Int:=if 14<s.size then 7 else if zT s then (if s.extract (s.size - 1) s.size=zbw (s.extract 0 (s.size - 2)) then 0 else 14) else 8
theorem check36 (s:ByteArray)(h:Eng.Heap):zb Tryz.prog 36 #[.string s] h (fun v h'=>v=.int .i64 (zbx s)∧Ext h h'):=by
  (refine zh Tryz.func36 rfl bod36 ?_; simp only [Tryz.ntmps36,Tryz.results36,za,zm,splice,Value.cells,Value.oneCell',Nat.reduceAdd,Nat.reduceSub,Nat.reduceMul,Nat.reduceLeDiff,Int.reduceEq,Nat.reduceEqDiff,Tryz.underlying9])
  by_cases hl:14<s.size
  · have hl2:(14:Int)<s.size:=by omega
    simp only [hl2,decide_true,za,Value.cells,Value.oneCell',Nat.reduceAdd,Nat.reduceSub,Nat.reduceMul,Nat.reduceLeDiff,Int.reduceEq,Nat.reduceEqDiff,Tryz.underlying9]
    exact⟨by rw [zbx,if_pos hl],Ext.refl h⟩
  · have hl2:¬ (14:Int)<s.size:=by omega
    simp only [hl2,decide_false,za,Value.cells,Value.oneCell',Nat.reduceAdd,Nat.reduceSub,Nat.reduceMul,Nat.reduceLeDiff,Int.reduceEq,Nat.reduceEqDiff,Tryz.underlying9]
    refine zb.mono (cut85 s h (by omega)) ?_
    rintro v h1 ⟨rfl,x1⟩
    cases ho:zT s with
    | false=>
      simp only [Bool.false_eq_true,if_false,Bool.not_false,za,Value.cells,Value.oneCell',Nat.reduceAdd,Nat.reduceSub,Nat.reduceMul,Nat.reduceLeDiff,Int.reduceEq,Nat.reduceEqDiff,Tryz.underlying9]
      exact⟨by rw [zbx,if_neg hl,ho]; rfl,x1⟩
    | true=>
      simp only [if_true,Bool.not_true,za,Value.cells,Value.oneCell',Nat.reduceAdd,Nat.reduceSub,Nat.reduceMul,Nat.reduceLeDiff,Int.reduceEq,Nat.reduceEqDiff,Tryz.underlying9]
      refine zb.mono (zkH _ h1 ((zY s).1 ho).2.1) ?_
      rintro v h2 ⟨rfl,x2⟩
      by_cases he:s.extract (s.size - 1) s.size=zbw (s.extract 0 (s.size - 2))
      · simp only [he,decide_true,Bool.not_true,za,Value.cells,Value.oneCell',Nat.reduceAdd,Nat.reduceSub,Nat.reduceMul,Nat.reduceLeDiff,Int.reduceEq,Nat.reduceEqDiff,Tryz.underlying9]
        exact⟨by rw [zbx,if_neg hl,ho,if_pos rfl,if_pos he],x1.trans x2⟩
      · simp only [he,decide_false,Bool.not_false,za,Value.cells,Value.oneCell',Nat.reduceAdd,Nat.reduceSub,Nat.reduceMul,Nat.reduceLeDiff,Int.reduceEq,Nat.reduceEqDiff,Tryz.underlying9]
        exact⟨by rw [zbx,if_neg hl,ho,if_pos rfl,if_neg he],x1.trans x2⟩
theorem check37 (s:ByteArray)(h:Eng.Heap):zb Tryz.prog 37 #[.string s] h (fun v h'=>v=.int .i64 (zbx s)∧h'=h):=by
  (refine zh Tryz.func37 rfl bod37 ?_; simp only [Tryz.ntmps37,Tryz.results37,za,zm,splice,Value.cells,Value.oneCell',Nat.reduceAdd,Nat.reduceSub,Nat.reduceMul,Nat.reduceLeDiff,Int.reduceEq,Nat.reduceEqDiff,Tryz.underlying9])
  by_cases hl:14<s.size
  · have hl2:(14:Int)<s.size:=by omega
    simp only [hl2,decide_true,za,Value.cells,Value.oneCell',Nat.reduceAdd,Nat.reduceSub,Nat.reduceMul,Nat.reduceLeDiff,Int.reduceEq,Nat.reduceEqDiff,Tryz.underlying9]
    rw [zbx,if_pos hl]
  · have hl2:¬ (14:Int)<s.size:=by omega
    simp only [hl2,decide_false,za,Value.cells,Value.oneCell',Nat.reduceAdd,Nat.reduceSub,Nat.reduceMul,Nat.reduceLeDiff,Int.reduceEq,Nat.reduceEqDiff,Tryz.underlying9]
    refine zb.mono (line86 s h (by omega)) ?_
    rintro v h1 ⟨rfl,rfl⟩
    cases ho:zT s with
    | false=>
      simp only [Bool.not_false,za,Value.cells,Value.oneCell',Nat.reduceAdd,Nat.reduceSub,Nat.reduceMul,Nat.reduceLeDiff,Int.reduceEq,Nat.reduceEqDiff,Tryz.underlying9]
      rw [zbx,if_neg hl,ho]; rfl
    | true=>
      have h3:=((zY s).1 ho).1
      have e2:((s.size:Nat):Int) - 2=((s.size - 2:Nat):Int):=by omega
      have e1:((s.size:Nat):Int) - 1=((s.size - 1:Nat):Int):=by omega
      simp only [Bool.not_true,za,Value.cells,Value.oneCell',Nat.reduceAdd,Nat.reduceSub,Nat.reduceMul,Nat.reduceLeDiff,Int.reduceEq,Nat.reduceEqDiff,Tryz.underlying9]
      refine zhU (by kernel_rfl) zgU (.quiet 0 (.quiet 1 (.quiet 2 (.quiet 3 (.quiet 4 (.quiet 5 (.quiet 6 (.quiet 7 (.keep 8 (.quiet 9 (.fin))))))))))) (by kernel_rfl) rfl (by kernel_rfl) ?_
      simp only [e1,e2,Int.toNat_natCast,za,Value.cells,Value.oneCell',Nat.reduceAdd,Nat.reduceSub,Nat.reduceMul,Nat.reduceLeDiff,Int.reduceEq,Nat.reduceEqDiff,zC,zba,Tryz.underlying9]
      refine⟨by rw [zg]; omega,by omega,by omega,by omega,by rw [zg]; omega,by decide,by omega,by omega,?_⟩
      refine zlD ?_
      simp only [za,Value.cells,Value.oneCell',Nat.reduceAdd,Nat.reduceSub,Nat.reduceMul,Nat.reduceLeDiff,Int.reduceEq,Nat.reduceEqDiff,zC,zba,Tryz.underlying9]
      refine zb.mono (signOf46 _ h1 ((zY s).1 ho).2.1) ?_
      rintro v h2 ⟨rfl,rfl⟩
      refine⟨rfl,?_⟩
      simp only [za,Value.cells,Value.oneCell',Nat.reduceAdd,Nat.reduceSub,Nat.reduceMul,Nat.reduceLeDiff,Int.reduceEq,Nat.reduceEqDiff,zC,zba,Tryz.underlying9]
      by_cases he:s.extract (s.size - 1) s.size=zbw (s.extract 0 (s.size - 2))
      · simp only [he,decide_true,Bool.not_true,za,Value.cells,Value.oneCell',Nat.reduceAdd,Nat.reduceSub,Nat.reduceMul,Nat.reduceLeDiff,Int.reduceEq,Nat.reduceEqDiff,zC,zba,Tryz.underlying9]
        refine zgF ?_
        simp only [za,Value.cells,Value.oneCell',Nat.reduceAdd,Nat.reduceSub,Nat.reduceMul,Nat.reduceLeDiff,Int.reduceEq,Nat.reduceEqDiff,Tryz.underlying9]
        rw [zbx,if_neg hl,ho,if_pos rfl,if_pos he]
      · simp only [he,decide_false,Bool.not_false,za,Value.cells,Value.oneCell',Nat.reduceAdd,Nat.reduceSub,Nat.reduceMul,Nat.reduceLeDiff,Int.reduceEq,Nat.reduceEqDiff,zC,zba,Tryz.underlying9]
        refine zgF ?_
        simp only [za,Value.cells,Value.oneCell',Nat.reduceAdd,Nat.reduceSub,Nat.reduceMul,Nat.reduceLeDiff,Int.reduceEq,Nat.reduceEqDiff,Tryz.underlying9]
        rw [zbx,if_neg hl,ho,if_pos rfl,if_neg he]
end Go.Proofs.YtepaekbjoombpaaGreatDoor
end
section
namespace Go.Proofs
open Go.Shelf
def Tryz.lays138_ren:Go.Shelf.Ren:=⟨fun | 138=>152 | 195=>175 | 218=>176 | 143=>153 | 219=>177 | 217=>210 | 225=>211 | 224=>212 | 267=>213 | 266=>229 | 314=>230 | n=>n,fun | 9=>9 | 3=>3 | 4=>4 | 5=>5 | 0=>0 | 46=>196 | 146=>257 | 51=>227 | n=>n,fun | 1=>0 | n=>n⟩
theorem Tryz.lays138:Go.Proofs.Lays.n138 Tryz.prog Tryz.lays138_ren:={
  mixed:=by kernel_rfl
  f138:=Tryz.func152.trans (congrArg some (by kernel_rfl))
  f143:=Tryz.func153.trans (congrArg some (by kernel_rfl))
  f195:=Tryz.func175.trans (congrArg some (by kernel_rfl))
  f217:=Tryz.func210.trans (congrArg some (by kernel_rfl))
  f218:=Tryz.func176.trans (congrArg some (by kernel_rfl))
  f219:=Tryz.func177.trans (congrArg some (by kernel_rfl))
  f224:=Tryz.func212.trans (congrArg some (by kernel_rfl))
  f225:=Tryz.func211.trans (congrArg some (by kernel_rfl))
  f266:=Tryz.func229.trans (congrArg some (by kernel_rfl))
  f267:=Tryz.func213.trans (congrArg some (by kernel_rfl))
  f314:=Tryz.func230.trans (congrArg some (by kernel_rfl))
  t0:=Tryz.underlying0
  a0:=Tryz.isAgg0
  z0:=Tryz.sizeOf0
  v0:=Tryz.zeroValue0
  t3:=Tryz.underlying3
  a3:=Tryz.isAgg3
  z3:=Tryz.sizeOf3
  v3:=Tryz.zeroValue3
  t4:=Tryz.underlying4
  a4:=Tryz.isAgg4
  z4:=Tryz.sizeOf4
  v4:=Tryz.zeroValue4
  t5:=Tryz.underlying5
  a5:=Tryz.isAgg5
  z5:=Tryz.sizeOf5
  v5:=Tryz.zeroValue5
  t9:=Tryz.underlying9
  a9:=Tryz.isAgg9
  z9:=Tryz.sizeOf9
  v9:=Tryz.zeroValue9
  t46:=Tryz.underlying196
  a46:=Tryz.isAgg196
  z46:=Tryz.sizeOf196
  v46:=Tryz.zeroValue196
  t51:=Tryz.underlying227
  a51:=Tryz.isAgg227
  z51:=Tryz.sizeOf227
  v51:=Tryz.zeroValue227
  t146:=Tryz.underlying257
  a146:=Tryz.isAgg257
  z146:=Tryz.sizeOf257
  v146:=Tryz.zeroValue257
  g1:=by kernel_rfl }
def Tryz.lays173_ren:Go.Shelf.Ren:=⟨fun | 173=>118 | 246=>148 | 283=>170 | 284=>171 | 285=>172 | 286=>173 | 129=>193 | 317=>205 | 318=>206 | 319=>207 | 320=>208 | 337=>227 | 338=>228 | n=>n,fun | 2=>2 | 3=>3 | 9=>9 | 4=>4 | 171=>204 | 0=>0 | 53=>205 | 37=>62 | 5=>5 | 173=>208 | 212=>236 | 51=>227 | 20=>20 | 213=>237 | 46=>196 | 232=>267 | 233=>268 | n=>n,fun | 17=>1 | 18=>6 | 19=>7 | n=>n⟩
theorem Tryz.lays173:Go.Proofs.LaysM.n173 Tryz.prog Tryz.lays173_ren:={
  mixed:=by kernel_rfl
  f129:=Tryz.func193.trans (congrArg some (by kernel_rfl))
  f173:=Tryz.func118.trans (congrArg some (by kernel_rfl))
  f246:=Tryz.func148.trans (congrArg some (by kernel_rfl))
  f283:=Tryz.func170.trans (congrArg some (by kernel_rfl))
  f284:=Tryz.func171.trans (congrArg some (by kernel_rfl))
  f285:=Tryz.func172.trans (congrArg some (by kernel_rfl))
  f286:=Tryz.func173.trans (congrArg some (by kernel_rfl))
  f317:=Tryz.func205.trans (congrArg some (by kernel_rfl))
  f318:=Tryz.func206.trans (congrArg some (by kernel_rfl))
  f319:=Tryz.func207.trans (congrArg some (by kernel_rfl))
  f320:=Tryz.func208.trans (congrArg some (by kernel_rfl))
  f337:=Tryz.func227.trans (congrArg some (by kernel_rfl))
  f338:=Tryz.func228.trans (congrArg some (by kernel_rfl))
  t0:=Tryz.underlying0
  a0:=Tryz.isAgg0
  z0:=Tryz.sizeOf0
  v0:=Tryz.zeroValue0
  t2:=Tryz.underlying2
  a2:=Tryz.isAgg2
  z2:=Tryz.sizeOf2
  v2:=Tryz.zeroValue2
  t3:=Tryz.underlying3
  a3:=Tryz.isAgg3
  z3:=Tryz.sizeOf3
  v3:=Tryz.zeroValue3
  t4:=Tryz.underlying4
  a4:=Tryz.isAgg4
  z4:=Tryz.sizeOf4
  v4:=Tryz.zeroValue4
  t5:=Tryz.underlying5
  a5:=Tryz.isAgg5
  z5:=Tryz.sizeOf5
  v5:=Tryz.zeroValue5
  t9:=Tryz.underlying9
  a9:=Tryz.isAgg9
  z9:=Tryz.sizeOf9
  v9:=Tryz.zeroValue9
  t20:=Tryz.underlying20
  a20:=Tryz.isAgg20
  z20:=Tryz.sizeOf20
  v20:=Tryz.zeroValue20
  t37:=Tryz.underlying62
  a37:=Tryz.isAgg62
  z37:=Tryz.sizeOf62
  v37:=Tryz.zeroValue62
  t46:=Tryz.underlying196
  a46:=Tryz.isAgg196
  z46:=Tryz.sizeOf196
  v46:=Tryz.zeroValue196
  t51:=Tryz.underlying227
  a51:=Tryz.isAgg227
  z51:=Tryz.sizeOf227
  v51:=Tryz.zeroValue227
  t53:=Tryz.underlying205
  a53:=Tryz.isAgg205
  z53:=Tryz.sizeOf205
  v53:=Tryz.zeroValue205
  t171:=Tryz.underlying204
  a171:=Tryz.isAgg204
  z171:=Tryz.sizeOf204
  v171:=Tryz.zeroValue204
  t173:=Tryz.underlying208
  a173:=Tryz.isAgg208
  z173:=Tryz.sizeOf208
  v173:=Tryz.zeroValue208
  t212:=Tryz.underlying236
  a212:=Tryz.isAgg236
  z212:=Tryz.sizeOf236
  v212:=Tryz.zeroValue236
  t213:=Tryz.underlying237
  a213:=Tryz.isAgg237
  z213:=Tryz.sizeOf237
  t232:=Tryz.underlying267
  a232:=Tryz.isAgg267
  z232:=Tryz.sizeOf267
  v232:=Tryz.zeroValue267
  t233:=Tryz.underlying268
  a233:=Tryz.isAgg268
  z233:=Tryz.sizeOf268
  v233:=Tryz.zeroValue268
  g17:=by kernel_rfl
  g18:=by kernel_rfl
  g19:=by kernel_rfl
  i0:=by kernel_rfl
  i2:=by kernel_rfl
  i3:=by kernel_rfl
  i4:=by kernel_rfl
  i5:=by kernel_rfl
  i9:=by kernel_rfl
  i20:=by kernel_rfl
  i37:=by kernel_rfl
  i46:=by kernel_rfl
  i51:=by kernel_rfl
  i53:=by kernel_rfl
  i171:=by kernel_rfl
  i173:=by kernel_rfl
  i212:=by kernel_rfl
  i232:=by kernel_rfl
  i233:=by kernel_rfl
  m17:=by kernel_rfl
  m18:=by kernel_rfl
  m19:=by kernel_rfl }
def Tryz.lays171_ren:Go.Shelf.Ren:=⟨fun | 171=>124 | 243=>156 | 246=>148 | 283=>170 | 284=>171 | 285=>172 | 286=>173 | 129=>193 | 317=>205 | 318=>206 | 319=>207 | 320=>208 | 337=>227 | 338=>228 | n=>n,fun | 3=>3 | 9=>9 | 2=>2 | 4=>4 | 171=>204 | 0=>0 | 53=>205 | 37=>62 | 5=>5 | 173=>208 | 212=>236 | 51=>227 | 20=>20 | 213=>237 | 46=>196 | 232=>267 | 233=>268 | n=>n,fun | 17=>1 | 18=>6 | 19=>7 | n=>n⟩
theorem Tryz.lays171:Go.Proofs.LaysM.n171 Tryz.prog Tryz.lays171_ren:={
  mixed:=by kernel_rfl
  f129:=Tryz.func193.trans (congrArg some (by kernel_rfl))
  f171:=Tryz.func124.trans (congrArg some (by kernel_rfl))
  f243:=Tryz.func156.trans (congrArg some (by kernel_rfl))
  f246:=Tryz.func148.trans (congrArg some (by kernel_rfl))
  f283:=Tryz.func170.trans (congrArg some (by kernel_rfl))
  f284:=Tryz.func171.trans (congrArg some (by kernel_rfl))
  f285:=Tryz.func172.trans (congrArg some (by kernel_rfl))
  f286:=Tryz.func173.trans (congrArg some (by kernel_rfl))
  f317:=Tryz.func205.trans (congrArg some (by kernel_rfl))
  f318:=Tryz.func206.trans (congrArg some (by kernel_rfl))
  f319:=Tryz.func207.trans (congrArg some (by kernel_rfl))
  f320:=Tryz.func208.trans (congrArg some (by kernel_rfl))
  f337:=Tryz.func227.trans (congrArg some (by kernel_rfl))
  f338:=Tryz.func228.trans (congrArg some (by kernel_rfl))
  t0:=Tryz.underlying0
  a0:=Tryz.isAgg0
  z0:=Tryz.sizeOf0
  v0:=Tryz.zeroValue0
  t2:=Tryz.underlying2
  a2:=Tryz.isAgg2
  z2:=Tryz.sizeOf2
  v2:=Tryz.zeroValue2
  t3:=Tryz.underlying3
  a3:=Tryz.isAgg3
  z3:=Tryz.sizeOf3
  v3:=Tryz.zeroValue3
  t4:=Tryz.underlying4
  a4:=Tryz.isAgg4
  z4:=Tryz.sizeOf4
  v4:=Tryz.zeroValue4
  t5:=Tryz.underlying5
  a5:=Tryz.isAgg5
  z5:=Tryz.sizeOf5
  v5:=Tryz.zeroValue5
  t9:=Tryz.underlying9
  a9:=Tryz.isAgg9
  z9:=Tryz.sizeOf9
  v9:=Tryz.zeroValue9
  t20:=Tryz.underlying20
  a20:=Tryz.isAgg20
  z20:=Tryz.sizeOf20
  v20:=Tryz.zeroValue20
  t37:=Tryz.underlying62
  a37:=Tryz.isAgg62
  z37:=Tryz.sizeOf62
  v37:=Tryz.zeroValue62
  t46:=Tryz.underlying196
  a46:=Tryz.isAgg196
  z46:=Tryz.sizeOf196
  v46:=Tryz.zeroValue196
  t51:=Tryz.underlying227
  a51:=Tryz.isAgg227
  z51:=Tryz.sizeOf227
  v51:=Tryz.zeroValue227
  t53:=Tryz.underlying205
  a53:=Tryz.isAgg205
  z53:=Tryz.sizeOf205
  v53:=Tryz.zeroValue205
  t171:=Tryz.underlying204
  a171:=Tryz.isAgg204
  z171:=Tryz.sizeOf204
  v171:=Tryz.zeroValue204
  t173:=Tryz.underlying208
  a173:=Tryz.isAgg208
  z173:=Tryz.sizeOf208
  v173:=Tryz.zeroValue208
  t212:=Tryz.underlying236
  a212:=Tryz.isAgg236
  z212:=Tryz.sizeOf236
  v212:=Tryz.zeroValue236
  t213:=Tryz.underlying237
  a213:=Tryz.isAgg237
  z213:=Tryz.sizeOf237
  t232:=Tryz.underlying267
  a232:=Tryz.isAgg267
  z232:=Tryz.sizeOf267
  v232:=Tryz.zeroValue267
  t233:=Tryz.underlying268
  a233:=Tryz.isAgg268
  z233:=Tryz.sizeOf268
  v233:=Tryz.zeroValue268
  g17:=by kernel_rfl
  g18:=by kernel_rfl
  g19:=by kernel_rfl
  i0:=by kernel_rfl
  i2:=by kernel_rfl
  i3:=by kernel_rfl
  i4:=by kernel_rfl
  i5:=by kernel_rfl
  i9:=by kernel_rfl
  i20:=by kernel_rfl
  i37:=by kernel_rfl
  i46:=by kernel_rfl
  i51:=by kernel_rfl
  i53:=by kernel_rfl
  i171:=by kernel_rfl
  i173:=by kernel_rfl
  i212:=by kernel_rfl
  i232:=by kernel_rfl
  i233:=by kernel_rfl
  m17:=by kernel_rfl
  m18:=by kernel_rfl
  m19:=by kernel_rfl }
def Tryz.lays156_ren:Go.Shelf.Ren:=⟨fun | 156=>119 | 165=>149 | 166=>87 | 169=>90 | 240=>117 | 241=>174 | 276=>147 | 277=>209 | n=>n,fun | 31=>65 | 9=>9 | 3=>3 | 4=>4 | 0=>0 | 20=>20 | 72=>115 | 76=>118 | 70=>113 | 37=>62 | 75=>117 | 127=>155 | 164=>182 | 5=>5 | 80=>122 | n=>n,fun | n=>n⟩
theorem Tryz.lays156:Go.Proofs.Lays.n156 Tryz.prog Tryz.lays156_ren:={
  mixed:=by kernel_rfl
  f156:=Tryz.func119.trans (congrArg some (by kernel_rfl))
  f165:=Tryz.func149.trans (congrArg some (by kernel_rfl))
  f166:=Tryz.func87.trans (congrArg some (by kernel_rfl))
  f169:=Tryz.func90.trans (congrArg some (by kernel_rfl))
  f240:=Tryz.func117.trans (congrArg some (by kernel_rfl))
  f241:=Tryz.func174.trans (congrArg some (by kernel_rfl))
  f276:=Tryz.func147.trans (congrArg some (by kernel_rfl))
  f277:=Tryz.func209.trans (congrArg some (by kernel_rfl))
  t0:=Tryz.underlying0
  a0:=Tryz.isAgg0
  z0:=Tryz.sizeOf0
  v0:=Tryz.zeroValue0
  t3:=Tryz.underlying3
  a3:=Tryz.isAgg3
  z3:=Tryz.sizeOf3
  v3:=Tryz.zeroValue3
  t4:=Tryz.underlying4
  a4:=Tryz.isAgg4
  z4:=Tryz.sizeOf4
  v4:=Tryz.zeroValue4
  t9:=Tryz.underlying9
  a9:=Tryz.isAgg9
  z9:=Tryz.sizeOf9
  v9:=Tryz.zeroValue9
  t20:=Tryz.underlying20
  a20:=Tryz.isAgg20
  z20:=Tryz.sizeOf20
  v20:=Tryz.zeroValue20
  t31:=Tryz.underlying65
  a31:=Tryz.isAgg65
  z31:=Tryz.sizeOf65
  v31:=Tryz.zeroValue65
  t37:=Tryz.underlying62
  a37:=Tryz.isAgg62
  z37:=Tryz.sizeOf62
  v37:=Tryz.zeroValue62
  t70:=Tryz.underlying113
  a70:=Tryz.isAgg113
  z70:=Tryz.sizeOf113
  v70:=Tryz.zeroValue113
  t72:=Tryz.underlying115
  a72:=Tryz.isAgg115
  z72:=Tryz.sizeOf115
  v72:=Tryz.zeroValue115
  t75:=Tryz.underlying117
  a75:=Tryz.isAgg117
  z75:=Tryz.sizeOf117
  v75:=Tryz.zeroValue117
  t76:=Tryz.underlying118
  a76:=Tryz.isAgg118
  z76:=Tryz.sizeOf118
  v76:=Tryz.zeroValue118
  t127:=Tryz.underlying155
  a127:=Tryz.isAgg155
  z127:=Tryz.sizeOf155
  v127:=Tryz.zeroValue155
  t164:=Tryz.underlying182
  a164:=Tryz.isAgg182
  z164:=Tryz.sizeOf182
  v164:=Tryz.zeroValue182 }
def Tryz.lays172_ren:Go.Shelf.Ren:=⟨fun | 172=>123 | 244=>154 | 245=>155 | 247=>178 | 279=>179 | 280=>180 | 281=>181 | 282=>182 | 287=>214 | 316=>215 | 171=>124 | 205=>216 | 321=>231 | 322=>232 | 243=>156 | 246=>148 | 283=>170 | 284=>171 | 285=>172 | 286=>173 | 129=>193 | 317=>205 | 318=>206 | 319=>207 | 320=>208 | 337=>227 | 338=>228 | n=>n,fun | 9=>9 | 3=>3 | 75=>117 | 76=>118 | 4=>4 | 5=>5 | 167=>211 | 37=>62 | 0=>0 | 85=>212 | 2=>2 | 168=>214 | 53=>205 | 175=>239 | 46=>196 | 210=>242 | 127=>155 | 145=>262 | 143=>260 | 21=>21 | 171=>204 | 173=>208 | 212=>236 | 51=>227 | 20=>20 | 213=>237 | 232=>267 | 233=>268 | 80=>122 | n=>n,fun | 15=>2 | 16=>3 | 17=>1 | 18=>6 | 19=>7 | n=>n⟩
theorem Tryz.lays172:Go.Proofs.LaysC.n172 Tryz.prog Tryz.lays172_ren:={
  mixed:=by kernel_rfl
  f129:=Tryz.func193.trans (congrArg some (by kernel_rfl))
  f171:=Tryz.func124.trans (congrArg some (by kernel_rfl))
  f172:=Tryz.func123.trans (congrArg some (by kernel_rfl))
  f205:=Tryz.func216.trans (congrArg some (by kernel_rfl))
  f243:=Tryz.func156.trans (congrArg some (by kernel_rfl))
  f244:=Tryz.func154.trans (congrArg some (by kernel_rfl))
  f245:=Tryz.func155.trans (congrArg some (by kernel_rfl))
  f246:=Tryz.func148.trans (congrArg some (by kernel_rfl))
  f247:=Tryz.func178.trans (congrArg some (by kernel_rfl))
  f279:=Tryz.func179.trans (congrArg some (by kernel_rfl))
  f280:=Tryz.func180.trans (congrArg some (by kernel_rfl))
  f281:=Tryz.func181.trans (congrArg some (by kernel_rfl))
  f282:=Tryz.func182.trans (congrArg some (by kernel_rfl))
  f283:=Tryz.func170.trans (congrArg some (by kernel_rfl))
  f284:=Tryz.func171.trans (congrArg some (by kernel_rfl))
  f285:=Tryz.func172.trans (congrArg some (by kernel_rfl))
  f286:=Tryz.func173.trans (congrArg some (by kernel_rfl))
  f287:=Tryz.func214.trans (congrArg some (by kernel_rfl))
  f316:=Tryz.func215.trans (congrArg some (by kernel_rfl))
  f317:=Tryz.func205.trans (congrArg some (by kernel_rfl))
  f318:=Tryz.func206.trans (congrArg some (by kernel_rfl))
  f319:=Tryz.func207.trans (congrArg some (by kernel_rfl))
  f320:=Tryz.func208.trans (congrArg some (by kernel_rfl))
  f321:=Tryz.func231.trans (congrArg some (by kernel_rfl))
  f322:=Tryz.func232.trans (congrArg some (by kernel_rfl))
  f337:=Tryz.func227.trans (congrArg some (by kernel_rfl))
  f338:=Tryz.func228.trans (congrArg some (by kernel_rfl))
  t0:=Tryz.underlying0
  a0:=Tryz.isAgg0
  z0:=Tryz.sizeOf0
  v0:=Tryz.zeroValue0
  t2:=Tryz.underlying2
  a2:=Tryz.isAgg2
  z2:=Tryz.sizeOf2
  v2:=Tryz.zeroValue2
  t3:=Tryz.underlying3
  a3:=Tryz.isAgg3
  z3:=Tryz.sizeOf3
  v3:=Tryz.zeroValue3
  t4:=Tryz.underlying4
  a4:=Tryz.isAgg4
  z4:=Tryz.sizeOf4
  v4:=Tryz.zeroValue4
  t5:=Tryz.underlying5
  a5:=Tryz.isAgg5
  z5:=Tryz.sizeOf5
  v5:=Tryz.zeroValue5
  t9:=Tryz.underlying9
  a9:=Tryz.isAgg9
  z9:=Tryz.sizeOf9
  v9:=Tryz.zeroValue9
  t20:=Tryz.underlying20
  a20:=Tryz.isAgg20
  z20:=Tryz.sizeOf20
  v20:=Tryz.zeroValue20
  t21:=Tryz.underlying21
  a21:=Tryz.isAgg21
  z21:=Tryz.sizeOf21
  v21:=Tryz.zeroValue21
  t37:=Tryz.underlying62
  a37:=Tryz.isAgg62
  z37:=Tryz.sizeOf62
  v37:=Tryz.zeroValue62
  t46:=Tryz.underlying196
  a46:=Tryz.isAgg196
  z46:=Tryz.sizeOf196
  v46:=Tryz.zeroValue196
  t51:=Tryz.underlying227
  a51:=Tryz.isAgg227
  z51:=Tryz.sizeOf227
  v51:=Tryz.zeroValue227
  t53:=Tryz.underlying205
  a53:=Tryz.isAgg205
  z53:=Tryz.sizeOf205
  v53:=Tryz.zeroValue205
  t75:=Tryz.underlying117
  a75:=Tryz.isAgg117
  z75:=Tryz.sizeOf117
  v75:=Tryz.zeroValue117
  t76:=Tryz.underlying118
  a76:=Tryz.isAgg118
  z76:=Tryz.sizeOf118
  v76:=Tryz.zeroValue118
  t85:=Tryz.underlying212
  a85:=Tryz.isAgg212
  z85:=Tryz.sizeOf212
  v85:=Tryz.zeroValue212
  t127:=Tryz.underlying155
  a127:=Tryz.isAgg155
  z127:=Tryz.sizeOf155
  v127:=Tryz.zeroValue155
  t143:=Tryz.underlying260
  a143:=Tryz.isAgg260
  z143:=Tryz.sizeOf260
  v143:=Tryz.zeroValue260
  t145:=Tryz.underlying262
  a145:=Tryz.isAgg262
  z145:=Tryz.sizeOf262
  v145:=Tryz.zeroValue262
  t167:=Tryz.underlying211
  a167:=Tryz.isAgg211
  z167:=Tryz.sizeOf211
  v167:=Tryz.zeroValue211
  t168:=Tryz.underlying214
  a168:=Tryz.isAgg214
  z168:=Tryz.sizeOf214
  v168:=Tryz.zeroValue214
  t171:=Tryz.underlying204
  a171:=Tryz.isAgg204
  z171:=Tryz.sizeOf204
  v171:=Tryz.zeroValue204
  t173:=Tryz.underlying208
  a173:=Tryz.isAgg208
  z173:=Tryz.sizeOf208
  v173:=Tryz.zeroValue208
  t175:=Tryz.underlying239
  a175:=Tryz.isAgg239
  z175:=Tryz.sizeOf239
  v175:=Tryz.zeroValue239
  t210:=Tryz.underlying242
  a210:=Tryz.isAgg242
  z210:=Tryz.sizeOf242
  v210:=Tryz.zeroValue242
  t212:=Tryz.underlying236
  a212:=Tryz.isAgg236
  z212:=Tryz.sizeOf236
  v212:=Tryz.zeroValue236
  t213:=Tryz.underlying237
  a213:=Tryz.isAgg237
  z213:=Tryz.sizeOf237
  t232:=Tryz.underlying267
  a232:=Tryz.isAgg267
  z232:=Tryz.sizeOf267
  v232:=Tryz.zeroValue267
  t233:=Tryz.underlying268
  a233:=Tryz.isAgg268
  z233:=Tryz.sizeOf268
  v233:=Tryz.zeroValue268
  g15:=by kernel_rfl
  g16:=by kernel_rfl
  g17:=by kernel_rfl
  g18:=by kernel_rfl
  g19:=by kernel_rfl
  t80:=Tryz.underlying122
  a80:=Tryz.isAgg122
  z80:=Tryz.sizeOf122
  v80:=Tryz.zeroValue122
  i0:=by kernel_rfl
  i2:=by kernel_rfl
  i3:=by kernel_rfl
  i4:=by kernel_rfl
  i5:=by kernel_rfl
  i9:=by kernel_rfl
  i20:=by kernel_rfl
  i21:=by kernel_rfl
  i37:=by kernel_rfl
  i46:=by kernel_rfl
  i51:=by kernel_rfl
  i53:=by kernel_rfl
  i75:=by kernel_rfl
  i76:=by kernel_rfl
  i80:=by kernel_rfl
  i85:=by kernel_rfl
  i127:=by kernel_rfl
  i143:=by kernel_rfl
  i145:=by kernel_rfl
  i167:=by kernel_rfl
  i168:=by kernel_rfl
  i171:=by kernel_rfl
  i173:=by kernel_rfl
  i175:=by kernel_rfl
  i210:=by kernel_rfl
  i212:=by kernel_rfl
  i232:=by kernel_rfl
  i233:=by kernel_rfl
  m15:=by kernel_rfl
  m16:=by kernel_rfl
  m17:=by kernel_rfl
  m18:=by kernel_rfl
  m19:=by kernel_rfl
  c0:=by kernel_rfl
  c2:=by kernel_rfl
  c3:=by kernel_rfl
  c4:=by kernel_rfl
  c5:=by kernel_rfl
  c9:=by kernel_rfl
  c20:=by kernel_rfl
  c21:=by kernel_rfl
  c37:=by kernel_rfl
  c46:=by kernel_rfl
  c51:=by kernel_rfl
  c53:=by kernel_rfl
  c75:=by kernel_rfl
  c76:=by kernel_rfl
  c80:=by kernel_rfl
  c85:=by kernel_rfl
  c127:=by kernel_rfl
  c143:=by kernel_rfl
  c145:=by kernel_rfl
  c167:=by kernel_rfl
  c168:=by kernel_rfl
  c171:=by kernel_rfl
  c173:=by kernel_rfl
  c175:=by kernel_rfl
  c210:=by kernel_rfl
  c212:=by kernel_rfl
  c213:=by kernel_rfl
  c232:=by kernel_rfl
  c233:=by kernel_rfl }
def Tryz.lays143_ren:Go.Shelf.Ren:=⟨fun | 143=>153 | 219=>177 | 217=>210 | 225=>211 | 224=>212 | 267=>213 | 266=>229 | 314=>230 | n=>n,fun | 9=>9 | 3=>3 | 4=>4 | 5=>5 | 46=>196 | 146=>257 | 51=>227 | n=>n,fun | 1=>0 | n=>n⟩
theorem Tryz.lays143:Go.Proofs.Lays.n143 Tryz.prog Tryz.lays143_ren:={
  mixed:=by kernel_rfl
  f143:=Tryz.func153.trans (congrArg some (by kernel_rfl))
  f217:=Tryz.func210.trans (congrArg some (by kernel_rfl))
  f219:=Tryz.func177.trans (congrArg some (by kernel_rfl))
  f224:=Tryz.func212.trans (congrArg some (by kernel_rfl))
  f225:=Tryz.func211.trans (congrArg some (by kernel_rfl))
  f266:=Tryz.func229.trans (congrArg some (by kernel_rfl))
  f267:=Tryz.func213.trans (congrArg some (by kernel_rfl))
  f314:=Tryz.func230.trans (congrArg some (by kernel_rfl))
  t3:=Tryz.underlying3
  a3:=Tryz.isAgg3
  z3:=Tryz.sizeOf3
  v3:=Tryz.zeroValue3
  t4:=Tryz.underlying4
  a4:=Tryz.isAgg4
  z4:=Tryz.sizeOf4
  v4:=Tryz.zeroValue4
  t5:=Tryz.underlying5
  a5:=Tryz.isAgg5
  z5:=Tryz.sizeOf5
  v5:=Tryz.zeroValue5
  t9:=Tryz.underlying9
  a9:=Tryz.isAgg9
  z9:=Tryz.sizeOf9
  v9:=Tryz.zeroValue9
  t46:=Tryz.underlying196
  a46:=Tryz.isAgg196
  z46:=Tryz.sizeOf196
  v46:=Tryz.zeroValue196
  t51:=Tryz.underlying227
  a51:=Tryz.isAgg227
  z51:=Tryz.sizeOf227
  v51:=Tryz.zeroValue227
  t146:=Tryz.underlying257
  a146:=Tryz.isAgg257
  z146:=Tryz.sizeOf257
  v146:=Tryz.zeroValue257
  g1:=by kernel_rfl }
end Go.Proofs
end
section
namespace Go.Proofs.YtepaekbjoombpaaGreatDoor
set_option linter.unusedSimpArgs false
set_option linter.unusedVariables false
set_option linter.defProp false
set_option linter.unusedSectionVars false
namespace FL
variable {α:Type} [DecidableEq α]
def prt (c:α):List α→List (List α)
  | []=>[[]]
  | x::s=>if x=c then []::prt c s else match prt c s with
    | []=>[[x]]
    | w::ws=>(x::w)::ws
def jn (c:α):List (List α)→List α
  | []=>[]
  | [w]=>w
  | w::v::ws=>w++c::jn c (v::ws)
theorem zdR (c:α):∀ s:List α,prt c s≠[]
  | []=>by simp [prt]
  | x::s=>by
    rw [prt]
    split
    · simp
    · cases prt c s <;> simp
theorem jn_cons (c x:α):∀ (w:List α) (ws:List (List α)),jn c ((x::w)::ws)=x::jn c (w::ws)
  | _,[]=>rfl
  | _,_::_=>rfl
theorem zj9 (c:α):∀ s:List α,jn c (prt c s)=s
  | []=>rfl
  | x::s=>by
    have ih:=zj9 c s
    have hn:=zdR c s
    rw [prt]
    split
    · rename_i h
      subst h
      cases hp:prt x s with
      | nil=>exact absurd hp hn
      | cons w ws=>rw [hp] at ih; show []++x::jn x (w::ws)=_; rw [ih]; rfl
    · cases hp:prt c s with
      | nil=>exact absurd hp hn
      | cons w ws=>rw [hp] at ih; show jn c ((x::w)::ws)=_; rw [jn_cons,ih]
theorem prt_no (c:α):∀ (s:List α) (w:List α),w∈prt c s→c ∉ w
  | [],w,h=>by
    rw [prt,List.mem_singleton] at h
    rw [h]; exact List.not_mem_nil
  | x::s,w,h=>by
    have ih:=prt_no c s
    rw [prt] at h
    split at h
    · rcases List.mem_cons.1 h with h | h
      · rw [h]; exact List.not_mem_nil
      · exact ih w h
    · rename_i hx
      cases hp:prt c s with
      | nil=>exact absurd hp (zdR c s)
      | cons v ws=>
        rw [hp] at h ih
        rcases List.mem_cons.1 h with h | h
        · rw [h]
          intro hc
          rcases List.mem_cons.1 hc with e | hc
          · exact hx e.symm
          · exact ih v List.mem_cons_self hc
        · exact ih w (List.mem_cons_of_mem _ h)
theorem zet (c:α):∀ (w:List α),c ∉ w→prt c w=[w]
  | [],_=>rfl
  | x::w,h=>by
    rw [prt,if_neg (fun e=>h (by rw [e]; exact List.mem_cons_self)),zet c w fun hc=>h (List.mem_cons_of_mem _ hc)]
theorem zid (c:α):∀ (w s:List α),c ∉ w→prt c (w++c::s)=w::prt c s
  | [],s,_=>by rw [List.nil_append,prt,if_pos rfl]
  | x::w,s,h=>by
    rw [List.cons_append,prt,if_neg (fun e=>h (by rw [e]; exact List.mem_cons_self)),zid c w s fun hc=>h (List.mem_cons_of_mem _ hc)]
theorem zkl (c:α):∀ (ws:List (List α)),ws≠[]→(∀ w,w∈ws→c ∉ w)→prt c (jn c ws)=ws
  | [],h,_=>absurd rfl h
  | [w],_,h=>zet c w (h w List.mem_cons_self)
  | w::v::ws,_,h=>by
    show prt c (w++c::jn c (v::ws))=_
    rw [zid c w _ (h w List.mem_cons_self),zkl c (v::ws) (by simp) fun u hu=>h u (List.mem_cons_of_mem _ hu)]
def dgt (n:Nat):List Nat:=if h:n<10 then [n] else dgt (n / 10)++[n % 10]
termination_by n
def val (l:List Nat):Nat:=l.foldl (fun v d=>10*v+d) 0
theorem zex (l:List Nat)(d:Nat):val (l++[d])=10*val l+d:=by rw [val,List.foldl_append]; rfl
theorem val_dgt:∀ n,val (dgt n)=n:=fun n=>by
  induction n using Nat.strongRecOn with
  | ind n ih=>
    rw [dgt]
    split
    · show 10*0+n=n; omega
    · rw [zex,ih (n / 10) (by omega)]; omega
def good (l:List Nat):Prop:=l≠[]∧(∀ d,d∈l→d<10)∧(1<l.length→l.head?≠some 0)
theorem zgx:∀ n,good (dgt n)∧(0<n→(dgt n).head?≠some 0):=fun n=>by
  induction n using Nat.strongRecOn with
  | ind n ih=>
    rw [dgt]
    split
    · rename_i h
      refine⟨⟨by simp,fun d hd=>by rw [List.mem_singleton.1 hd]; exact h,fun h=>by simp at h⟩,fun h0 e=>?_⟩
      simp at e; omega
    · rename_i h
      obtain⟨⟨h1,h2,h3⟩,h4⟩:=ih (n / 10) (by omega)
      have hd:(dgt (n / 10)++[n % 10]).head?=(dgt (n / 10)).head?:=by
        cases hq:dgt (n / 10) with
        | nil=>exact absurd hq h1
        | cons x l=>rfl
      rw [hd]
      have h5:=h4 (by omega)
      refine⟨⟨by simp,fun d hd=>?_,fun _=>by rw [hd]; exact h5⟩,fun _=>h5⟩
      rcases List.mem_append.1 hd with hd | hd
      · exact h2 d hd
      · rw [List.mem_singleton.1 hd]; omega
theorem val_pos:∀ l:List Nat,l≠[]→l.head?≠some 0→0<val l:=fun l=>by
  induction hn:l.length generalizing l with
  | zero=>intro h; exact absurd (List.eq_nil_of_length_eq_zero hn) h
  | succ n ih=>
    intro h h0
    rw [← List.dropLast_concat_getLast h,zex]
    by_cases hd:l.dropLast=[]
    · rw [hd]
      have:l=[l.getLast h]:=by
        have:=List.dropLast_concat_getLast h
        rw [hd] at this
        exact this.symm
      rw [this] at h0
      simp only [List.head?_cons] at h0
      have h1:l.getLast h≠0:=fun e=>h0 (by rw [e])
      show 0<10*0+_
      omega
    · have:=ih l.dropLast (by rw [List.length_dropLast]; omega) hd (by
        have:l.dropLast.head?=l.head?:=by
          cases l with
          | nil=>exact absurd rfl h
          | cons x l=>
            cases l with
            | nil=>exact absurd rfl hd
            | cons y l=>rfl
        rw [this]
        exact h0)
      omega
theorem dgt_val:∀ l:List Nat,good l→dgt (val l)=l:=fun l=>by
  induction hn:l.length generalizing l with
  | zero=>intro h; exact absurd (List.eq_nil_of_length_eq_zero hn) h.1
  | succ n ih=>
    rintro⟨h,h2,h3⟩
    have hl:=List.dropLast_concat_getLast h
    have hx:l.getLast h<10:=h2 _ (List.getLast_mem h)
    by_cases hd:l.dropLast=[]
    · have e:l=[l.getLast h]:=by
        rw [hd] at hl
        exact hl.symm
      rw [e]
      have:val [l.getLast h]=l.getLast h:=by show 10*0+_=_; omega
      rw [this,dgt,dif_pos hx]
    · have hh:l.dropLast.head?=l.head?:=by
        cases l with
        | nil=>exact absurd rfl h
        | cons x l=>
          cases l with
          | nil=>exact absurd rfl hd
          | cons y l=>rfl
      have hlen:1<l.length:=by
        have:=List.length_pos_iff.2 hd
        rw [List.length_dropLast] at this
        omega
      have h0:=h3 hlen
      have ih:=ih l.dropLast (by rw [List.length_dropLast]; omega) ⟨hd,fun d hm=>h2 d ((List.dropLast_sublist l).subset hm),fun _=>by rw [hh]; exact h0⟩
      have hp:=val_pos l.dropLast hd (by rw [hh]; exact h0)
      have e:val l=10*val l.dropLast+l.getLast h:=by
        have:=zex l.dropLast (l.getLast h)
        rw [hl] at this
        exact this
      rw [e,dgt,dif_neg (by omega),show (10*val l.dropLast+l.getLast h) / 10=val l.dropLast by omega,show (10*val l.dropLast+l.getLast h) % 10=l.getLast h by omega,ih]
      exact hl
end FL
end Go.Proofs.YtepaekbjoombpaaGreatDoor
end
section
namespace Go.Proofs.YtepaekbjoombpaaGreatDoor
open Go Go.Proofs Go.Eng
set_option maxRecDepth 100000
set_option linter.unusedSimpArgs false
set_option linter.unusedVariables false
def sumL (l:List UInt8):Nat→Nat
  | 0=>0
  | n+1=>sumL l n+(n+1)*dv (l.getD n 0)
structure Ln (l:List UInt8)(n:Nat):Prop where
  len:l.length=n+2
  pos:1≤n∧n≤12
  tx:∀ i,i<n→txt (l.getD i 0)=true
  bl:l.getD n 0=32
  sg:(l.getD (n+1) 0).toNat=97+sumL l n % 13
def bl (s:ByteArray):List UInt8:=s.data.toList
theorem zz (s:ByteArray):(bl s).length=s.size:=Array.length_toList
theorem zbs (s:ByteArray)(i:Nat):s.data.getD i 0=(bl s).getD i 0:=by
  rw [bl,Array.getD_eq_getD_getElem?,List.getD_eq_getElem?_getD,Array.getElem?_toList]
theorem zoy (s t:ByteArray):bl (s++t)=bl s++bl t:=by simp [bl]
theorem zew (s:ByteArray)(i j:Nat):bl (s.extract i j)=((bl s).take j).drop i:=by simp [bl,ByteArray.data_extract,Array.toList_extract,List.extract_eq_take_drop,List.drop_take]
theorem zdo {s t:ByteArray}(h:bl s=bl t):s=t:=ByteArray.ext (Array.toList_inj.1 h)
theorem zjX (s:ByteArray):∀ n,sumTo s n=sumL (bl s) n
  | 0=>rfl
  | n+1=>by rw [sumTo,sumL,zjX s n,zbs]
end Go.Proofs.YtepaekbjoombpaaGreatDoor
end
section
namespace Go.Proofs.YtepaekbjoombpaaGreatDoor
open Go Go.Proofs Go.Eng
set_option maxRecDepth 100000
set_option linter.unusedSimpArgs false
set_option linter.unusedVariables false
set_option linter.defProp false
def dgb (n:Nat):List UInt8:=(FL.dgt n).map fun d=>UInt8.ofNat (48+d)
theorem dec_dgb:∀ n,Lib.decDigits n=dgb n:=fun n=>by
  induction n using Nat.strongRecOn with
  | ind n ih=>
    rw [Lib.decDigits,dgb,FL.dgt]
    split
    · rfl
    · rw [ih (n / 10) (by omega),List.map_append]; rfl
def isD (b:UInt8):Bool:=decide (48≤b.toNat∧b.toNat≤57)
def dvs (w:List UInt8):List Nat:=w.map fun b=>b.toNat - 48
def zcb (w:List UInt8):Prop:=w≠[]∧(∀ b∈w,isD b=true)∧(1<w.length→w.head?≠some 48)
theorem zbD {b:UInt8}:isD b=true↔48≤b.toNat∧b.toNat≤57:=by unfold isD; rw [decide_eq_true_eq]
theorem zcv {n:Nat}(h:n<256):(UInt8.ofNat n).toNat=n:=by
  rw [UInt8.toNat_ofNat']; omega
theorem zmY (w:List UInt8):(dvs w).length=w.length:=by simp [dvs]
theorem zmV (n:Nat):(dgb n).length=(FL.dgt n).length:=by simp [dgb]
theorem zlX (n:Nat):dvs (dgb n)=FL.dgt n:=by
  unfold dvs dgb
  rw [List.map_map]
  refine Eq.trans (List.map_congr_left (g:=id) fun d hd=>?_) (List.map_id _)
  have:=(FL.zgx n).1.2.1 d hd
  show (UInt8.ofNat (48+d)).toNat - 48=d
  rw [zcv (by omega)]; omega
theorem zkv {w:List UInt8}(hd:∀ b∈w,isD b=true):zcb w↔FL.good (dvs w):=by
  have h0:w≠[]↔dvs w≠[]:=by unfold dvs; simp
  have h2:∀ d∈dvs w,d<10:=fun d h=>by
    obtain⟨b,hb,rfl⟩:=List.mem_map.1 h
    have:=zbD.1 (hd b hb)
    omega
  have h3:w.head?≠some 48↔(dvs w).head?≠some 0:=by
    cases w with
    | nil=>simp [dvs]
    | cons b w=>
      have hb:=zbD.1 (hd b List.mem_cons_self)
      simp only [dvs,List.map_cons,List.head?_cons,ne_eq,Option.some.injEq]
      constructor
      · intro h h1
        refine h (UInt8.toNat_inj.1 ?_)
        show b.toNat=48
        omega
      · rintro h rfl
        exact h rfl
  unfold zcb FL.good
  rw [h0,h3,zmY]
  exact⟨fun h=>⟨h.1,h2,h.2.2⟩,fun h=>⟨h.1,hd,h.2.2⟩⟩
theorem zey (n:Nat):∀ b∈dgb n,isD b=true:=fun b hb=>by
  unfold dgb at hb
  obtain⟨d,hd,rfl⟩:=List.mem_map.1 hb
  have:=(FL.zgx n).1.2.1 d hd
  rw [zbD,zcv (by omega)]; omega
theorem zgr (n:Nat):zcb (dgb n):=by
  rw [zkv (zey n),zlX]
  exact (FL.zgx n).1
def valW (w:List UInt8):Nat:=FL.val (dvs w)
theorem valW_dgb (n:Nat):valW (dgb n)=n:=by rw [valW,zlX,FL.val_dgt]
theorem map_dvs {w:List UInt8}(hd:∀ b∈w,isD b=true):(dvs w).map (fun d=>UInt8.ofNat (48+d))=w:=by
  unfold dvs
  rw [List.map_map]
  refine Eq.trans (List.map_congr_left (g:=id) fun b hb=>?_) (List.map_id _)
  have:=zbD.1 (hd b hb)
  apply UInt8.toNat_inj.1
  show (UInt8.ofNat (48+(b.toNat - 48))).toNat=b.toNat
  rw [zcv (by omega)]; omega
theorem zkx {w:List UInt8}(h:zcb w):dgb (valW w)=w:=by
  unfold dgb valW
  rw [FL.dgt_val _ ((zkv h.2.1).1 h),map_dvs h.2.1]
theorem dgb_iff {w:List UInt8}(hd:∀ b∈w,isD b=true):dgb (valW w)=w↔zcb w:=⟨fun h=>by rw [← h]; exact zgr _,zkx⟩
theorem zf9:∀ (w:List UInt8) (acc:Nat),(∀ b∈w,isD b=true)→Lib.decFrom acc w=some ((dvs w).foldl (fun v d=>10*v+d) acc)
  | [],acc,_=>rfl
  | b::w,acc,h=>by
    have hb:=zbD.1 (h b List.mem_cons_self)
    have e:Lib.digitVal b=some (b.toNat - 48):=by unfold Lib.digitVal; rw [if_pos hb]
    rw [Lib.decFrom,e]
    show Lib.decFrom (acc*10+(b.toNat - 48)) w=_
    rw [zf9 w _ fun c hc=>h c (List.mem_cons_of_mem _ hc),Nat.mul_comm]
    rfl
theorem zld {w:List UInt8}(h0:w≠[])(hd:∀ b∈w,isD b=true):Lib.atoi w=some ((valW w:Nat):Int):=by
  match w,h0 with
  | b::w,_=>
    have hb:=zbD.1 (hd b List.mem_cons_self)
    have n1:(b == 45)=false:=by
      rw [beq_eq_false_iff_ne]
      rintro rfl
      exact absurd hb (by decide)
    have n2:(b == 43)=false:=by
      rw [beq_eq_false_iff_ne]
      rintro rfl
      exact absurd hb (by decide)
    have e:Lib.decNat (b::w)=some (valW (b::w)):=by
      unfold Lib.decNat
      rw [List.isEmpty_cons,if_neg (by decide),zf9 _ 0 hd]
      rfl
    show (if (b == 45)=true then (Lib.decNat w).map (fun (m:Nat)=>-(m:Int)) else if (b == 43)=true then (Lib.decNat w).map (fun (m:Nat)=>(m:Int)) else (Lib.decNat (b::w)).map (fun (m:Nat)=>(m:Int)))=_
    rw [if_neg (by rw [n1]; decide),if_neg (by rw [n2]; decide),e]
    rfl
theorem atoi_nil:Lib.atoi []=none:=rfl
theorem itoa_nat (n:Nat):Lib.itoa (n:Int)=dgb n:=by
  unfold Lib.itoa
  rw [if_neg (by omega),Int.toNat_natCast,dec_dgb]
def txtL (ns:List Nat):List UInt8:=FL.jn 32 (ns.map dgb)
def sgL (l:List UInt8):UInt8:=UInt8.ofNat (97+sumL l l.length % 13)
def linT (ns:List Nat):List UInt8:=txtL ns++[32,sgL (txtL ns)]
def linL (ns:List Nat):List UInt8:=linT ns++[10]
end Go.Proofs.YtepaekbjoombpaaGreatDoor
end
section
namespace Go.Proofs.YtepaekbjoombpaaGreatDoor
open Go Go.Proofs Go.Eng Go.Run Tab
set_option maxRecDepth 100000
set_option linter.unusedSimpArgs false
set_option linter.unusedVariables false
set_option linter.defProp false
set_option maxHeartbeats 1000000
noncomputable def varH (h:Eng.Heap)(name:String):Option (Array Value):=(Tryz.prog.globalNamed name).bind fun g=>match h[g]? with | some (.cells cs _ _)=>some cs | _=>none
theorem zj6 {h h':Eng.Heap}{name:String}{cs:Array Value}(e:varH h name=some cs)(x:Ext h h'):varH h' name=some cs:=by
  unfold varH at e ⊢
  cases hg:Tryz.prog.globalNamed name with
  | none=>rw [hg] at e; cases e
  | some g=>
    rw [hg] at e
    simp only [Option.bind_some] at e ⊢
    cases hh:h[g]? with
    | none=>rw [hh] at e; cases e
    | some o=>rw [x.get hh]; rw [hh] at e; exact e
structure Fx (h:Eng.Heap):Prop where
  tab : varH h "internal/strconv.uint64pow10" = some (Lib.pow10Tab.map fun z => Value.int .u64 z).toArray
  err : ∃ tp p, varH h "strconv.ErrSyntax" = some #[.iface tp p]
theorem Fx.ext {h h':Eng.Heap}(F:Fx h)(x:Ext h h'):Fx h':=⟨zj6 F.tab x,by obtain⟨tp,p,e⟩:=F.err; exact⟨tp,p,zj6 e x⟩⟩
theorem zbY {P:Program}{f:FuncId}{args:Array Value}{K:Value→Eng.Heap→Prop}{h:Eng.Heap}(hb:zq P f=true)(H:∀ w:World,w.heap=h→Calls P f args w fun e w'=>∃ v,e=.returned v∧K v w'.heap∧w'.os=w.os∧w'.tape=w.tape∧w'.output=w.output):zb P f args h K:=by
  unfold zb zaR
  refine⟨hb,fun w hw=>?_⟩
  refine (H w hw).mono fun e w' ⟨v,he,hk,h1,h2,h3⟩=>⟨v,he,hk,h1,h2,h3⟩
theorem count152 (s:ByteArray)(c:UInt8)(h:Eng.Heap):zb Tryz.prog 152 #[.string s,.string ⟨#[c]⟩] h (fun v h'=>v=.int .i64 (Lib.countByte s.data.toList c)∧h'=h):=
  zed (by kernel_rfl) fun w=>Any.strings_Count_one Tryz.lays138 s c w
theorem index153 (s:ByteArray)(c:UInt8)(h:Eng.Heap):zb Tryz.prog 153 #[.string s,.string ⟨#[c]⟩] h (fun v h'=>v=.int .i64 (Lib.indexByte s.data.toList c)∧h'=h):=
  zed (by kernel_rfl) fun w=>Any.strings_Index_one Tryz.lays143 s c w
theorem ziB {w w':World}{h:Eng.Heap}(hw:w.heap=h){k:Nat}{os:Array Obj}(e:w'=Go.Sort.grow (w.drewN k) os):Ext h w'.heap∧w'.os=w.os∧w'.tape=w.tape∧w'.output=w.output:=by
  subst e hw
  refine⟨⟨?_,fun i hi=>?_⟩,rfl,rfl,rfl⟩
  · show w.heap.size≤(w.heap++os).size
    rw [Array.size_append]; omega
  · show (w.heap++os)[i]?=w.heap[i]?
    rw [Array.getElem?_append_left hi]
theorem fmt118 (n:Int)(h:Eng.Heap)(F:Fx h)(h0:-9223372036854775808≤n)(h1:n≤9223372036854775807):zb Tryz.prog 118 #[.int .i64 n,.int .i64 10] h (fun v h'=>v=.string ⟨(Lib.itoa n).toArray⟩∧Ext h h'):=by
  refine zbY (by kernel_rfl) fun w hw=>?_
  refine (Any.strconv_FormatInt_10 Tryz.lays173 n h0 h1 w (by subst hw; exact F.tab)).mono ?_
  rintro e w' ⟨rfl,k,os,hw'⟩
  obtain⟨x,r1,r2,r3⟩:=ziB hw hw'
  exact⟨_,rfl,⟨rfl,x⟩,r1,r2,r3⟩
theorem itoa124 (n:Int)(h:Eng.Heap)(F:Fx h)(h0:-9223372036854775808≤n)(h1:n≤9223372036854775807):zb Tryz.prog 124 #[.int .i64 n] h (fun v h'=>v=.string ⟨(Lib.itoa n).toArray⟩∧Ext h h'):=by
  refine zbY (by kernel_rfl) fun w hw=>?_
  refine (Any.strconv_Itoa Tryz.lays171 n h0 h1 w (by subst hw; exact F.tab)).mono ?_
  rintro e w' ⟨rfl,k,os,hw'⟩
  obtain⟨x,r1,r2,r3⟩:=ziB hw hw'
  exact⟨_,rfl,⟨rfl,x⟩,r1,r2,r3⟩
def AtoP (s:ByteArray)(v:Value):Prop:=(∃ n,Lib.atoi s.data.toList=some n∧v=.tuple #[.int .i64 n,.nilIface])∨(Lib.atoi s.data.toList=none∧∃ t p,v=.tuple #[.int .i64 0,.iface t p])
theorem atoi123 (s:ByteArray)(h:Eng.Heap)(F:Fx h)(hl:s.size≤18):zb Tryz.prog 123 #[.string s] h (fun v h'=>AtoP s v∧Ext h h'):=by
  refine zbY (by kernel_rfl) fun w hw=>?_
  cases ha:Lib.atoi s.data.toList with
  | none=>
    obtain⟨tp,p,e⟩:=F.err
    refine (Any.strconv_Atoi_err_var Tryz.lays172 s hl ha tp p w (by subst hw; exact e)).mono ?_
    rintro e w' ⟨N,rfl,_,_,b⟩
    refine⟨_,rfl,⟨.inr ⟨ha,_,_,rfl⟩,?_⟩,b.os,b.tape,b.output⟩
    rw [← hw]; exact⟨b.size,fun i hi=>b.block i hi⟩
  | some n=>
    have hall:Lib.atoiAll s.data.toList=.ok n:=by
      rw [Lib.atoiAll_short _ hl,ha]; rfl
    refine (Any.strconv_Atoi_ok Tryz.lays172 s (by omega) n hall w).mono ?_
    rintro e w' ⟨rfl,hw'⟩
    refine⟨_,rfl,⟨.inl ⟨n,ha,rfl⟩,?_⟩,?_⟩
    · rw [← hw]
      rcases hw' with rfl | ⟨t,rfl⟩
      · exact Ext.refl _
      · exact⟨by rw [Lib.bytesWorld_size]; omega,fun i hi=>Lib.bytesWorld_at_old w _ t i hi⟩
    · rcases hw' with rfl | ⟨t,rfl⟩ <;> exact⟨rfl,rfl,rfl⟩
def zaa (xs:List ByteArray):List Value:=xs.map Value.string
theorem zaQ (xs:List ByteArray):(zaa xs).length=xs.length:=List.length_map _
theorem zj5:Builder.Extra Tryz.prog Tryz.lays156_ren where
  sizeBuilder:=by kernel_rfl
  liesBuilder:=by kernel_rfl
  t5:=Tryz.underlying5
  a5:=run_isAgg_plain Tryz.underlying5 rfl
  z5:=fun w=>by kernel_rfl
  v5:=fun w=>by kernel_rfl
  infoByte:=by kernel_rfl
  cellsByte:=by kernel_rfl
  sizeByte:=by kernel_rfl
  neB5:=by decide
end Go.Proofs.YtepaekbjoombpaaGreatDoor
end
section
namespace Go.Proofs.YtepaekbjoombpaaGreatDoor
open Go Go.Proofs Go.Eng Go.Run Tab
set_option maxRecDepth 100000
set_option linter.unusedSimpArgs false
set_option linter.unusedVariables false
set_option linter.defProp false
set_option maxHeartbeats 1000000
def BldS (B b:Nat)(l:List UInt8)(h:Eng.Heap):Prop:=∀ w:World,w.heap=h→Lib.IsBuilder 115 5 B b (Lib.byteCells l) w
theorem zjM {T e:TypeId}{B b:Nat}{bs:List Value}{w w':World}(h:w'.heap=w.heap)(H:Lib.IsBuilder T e B b bs w):Lib.IsBuilder T e B b bs w':=by
  unfold Lib.IsBuilder Lib.BuilderAt World.ownsRow at H ⊢
  rw [h]
  exact H
theorem BldS.of {B b:Nat}{l:List UInt8}{w:World}(H:Lib.IsBuilder 115 5 B b (Lib.byteCells l) w):BldS B b l w.heap:=fun w' h=>zjM h H
theorem BldS.fresh (h:Eng.Heap):BldS h.size h.size [] (h.push (.cells #[.pointer none,.slice none 0 0] 115)):=fun w hw=>by
  have:=Lib.fresh_isBuilder 115 5 { w with heap:=h }
  exact zjM (w:=World.alloc { w with heap:=h } (.cells #[.pointer none,.slice none 0 0] 115)) hw this
structure Ebl (B:Nat)(h h':Eng.Heap):Prop where
  size:h.size≤h'.size
  old:∀ i,i<B→h'[i]?=h[i]?
theorem Ebl.ext {B:Nat}{h0 h h':Eng.Heap}(E:Ebl B h h')(x:Ext h0 h)(hB:h0.size≤B):Ext h0 h':=⟨Nat.le_trans x.size E.size,fun i hi=>(E.old i (by omega)).trans (x.old i hi)⟩
theorem zn1 (s:ByteArray):Lib.strCells s=Lib.byteCells s.data.toList:=rfl
theorem wr87 (B b:Nat)(l:List UInt8)(s:ByteArray)(h:Eng.Heap)(H:BldS B b l h)(hl:l.length+s.size≤100000)(hB:B≤h.size) :
    zb Tryz.prog 87 #[.pointer (some ⟨b,0,none⟩),.string s] h (fun v h'=>v=.tuple #[.int .i64 s.size,.nilIface]∧BldS B b (l++s.data.toList) h'∧Ebl B h h'):=by
  refine zbY (by kernel_rfl) fun w hw=>?_
  refine (Any.Builder_WriteString (ρ:=Tryz.lays156_ren) { Tryz.lays156 with } zj5 B b _ s w (H w hw) (by simp [Lib.byteCells]; omega) (by rw [hw]; exact hB)).mono ?_
  rintro e w' ⟨rfl,hb,bl⟩
  refine⟨_,rfl,⟨rfl,?_,?_⟩,bl.os,bl.tape,bl.output⟩
  · refine BldS.of (.inr ?_)
    have e1:Lib.byteCells (l++s.data.toList)=Lib.byteCells l++Lib.strCells s:=by rw [zn1]; simp [Lib.byteCells]
    rw [e1]
    exact hb
  · rw [← hw]; exact⟨bl.size,fun i hi=>bl.block i hi⟩
theorem str90 (B b:Nat)(l:List UInt8)(h:Eng.Heap)(H:BldS B b l h)(hB:B≤h.size) :
    zb Tryz.prog 90 #[.pointer (some ⟨b,0,none⟩)] h (fun v h'=>v=.string ⟨l.toArray⟩∧Ebl B h h'):=by
  refine zbY (by kernel_rfl) fun w hw=>?_
  refine (Any.Builder_String_any (ρ:=Tryz.lays156_ren) { Tryz.lays156 with } zj5 B b l w (H w hw) (by rw [hw]; exact hB)).mono ?_
  rintro e w' ⟨rfl,bl⟩
  refine⟨_,rfl,⟨rfl,?_⟩,bl.os,bl.tape,bl.output⟩
  rw [← hw]; exact⟨bl.size,fun i hi=>bl.block i hi⟩
theorem zkf (c:UInt8):∀ ws:List (List UInt8),Lib.join ws [c]=FL.jn c ws
  | []=>rfl
  | [w]=>by
    show Lib.join [w] [c]=w
    simp [Lib.join,List.intercalate]
  | w::v::ws=>by
    have ih:=zkf c (v::ws)
    show Lib.join (w::v::ws) [c]=w++c::FL.jn c (v::ws)
    rw [← ih]
    simp [Lib.join,List.intercalate]
theorem join119 (bk off c:Nat)(xs:List ByteArray)(sep:UInt8)(h:Eng.Heap)(R:Row h (some ⟨bk,off,none⟩) (zaa xs))(h0:0<xs.length)(hc:xs.length≤c)(hn:xs.length≤1000)(hl:(FL.jn sep (xs.map (·.data.toList))).length≤100000) :
    zb Tryz.prog 119 #[.slice (some ⟨bk,off,none⟩) xs.length c,.string ⟨#[sep]⟩] h (fun v h'=>v=.string ⟨(FL.jn sep (xs.map (·.data.toList))).toArray⟩∧Ext h h'):=by
  refine zbY (by kernel_rfl) fun w hw=>?_
  have hj:=zkf sep (xs.map (·.data.toList))
  refine (Any.strings_Join Tryz.lays156 zj5 bk off c xs ⟨#[sep]⟩ w (fun j x hx=>?_) ?_ (by omega) hc (by
    show (Lib.join _ [sep]).length≤_
    rw [hj]; omega)).mono ?_
  · have hj:=(List.getElem?_eq_some_iff.1 hx).1
    have c1:=R.cell (j:=j) (by rw [zaQ]; exact hj)
    have e1:(zaa xs)[j]'(by rw [zaQ]; exact hj)=.string x:=by
      simp only [zaa,List.getElem_map]
      rw [(List.getElem?_eq_some_iff.1 hx).2]
    rw [e1,zW] at c1
    unfold zar at c1
    unfold World.cell?
    rw [hw]
    cases hb:h[bk]? with
    | none=>simp [hb] at c1
    | some ob=>cases ob <;> simp_all
  · rcases R with R | ⟨g,o,cur,ct,fr,h1,h2,_⟩
    · have:=congrArg List.length R
      rw [zaQ,List.length_nil] at this
      omega
    · cases h1
      rw [hw]
      exact zN h2
  rintro e w' ⟨rfl,bl⟩
  refine⟨_,rfl,⟨?_,?_⟩,bl.os,bl.tape,bl.output⟩
  · show Value.string ⟨(Lib.join _ [sep]).toArray⟩=_
    rw [hj]
  · rw [← hw]; exact⟨bl.size,fun i hi=>bl.block i hi⟩
end Go.Proofs.YtepaekbjoombpaaGreatDoor
end
section
namespace Go.Proofs.YtepaekbjoombpaaGreatDoor
open Go Go.Proofs Go.Eng Go.Run Tab
set_option maxRecDepth 100000
set_option linter.unusedSimpArgs false
set_option linter.unusedVariables false
set_option linter.defProp false
set_option maxHeartbeats 1000000
set_option linter.defProp false
def zbm:=(And.intro (And.intro (And.intro @agg9 @by9) (And.intro @inf9 @sz9)) (And.intro (And.intro @zero9 @Tryz.underlying3) (And.intro @Tryz.underlying9 @Tryz.underlying65)))
theorem zfP (c:UInt8):∀ l:List UInt8,(FL.prt c l).length=l.count c+1
  | []=>rfl
  | x::l=>by
    have ih:=zfP c l
    rw [FL.prt]
    by_cases h:x=c
    · rw [if_pos h,List.length_cons,ih,h,List.count_cons_self]
    · rw [if_neg h,List.count_cons_of_ne h]
      cases hp:FL.prt c l with
      | nil=>exact absurd hp (FL.zdR c l)
      | cons w ws=>rw [hp] at ih; simpa using ih
theorem zmb (c:UInt8):∀ l:List UInt8,0<l.count c→∃ i:Nat,Lib.indexByte l c=i∧i<l.length∧FL.prt c l=l.take i::FL.prt c (l.drop (i+1))∧l.count c=(l.drop (i+1)).count c+1
  | [],h=>by simp at h
  | x::l,h=>by
    by_cases hx:x=c
    · subst hx
      refine⟨0,?_,by simp,?_,?_⟩
      · rw [Lib.indexByte,if_pos (by simp)]; rfl
      · rw [FL.prt,if_pos rfl]; rfl
      · rw [List.count_cons_self]; rfl
    · rw [List.count_cons_of_ne hx] at h ⊢
      obtain⟨i,h1,h2,h3,h4⟩:=zmb c l h
      have hb:(x == c)=false:=beq_eq_false_iff_ne.2 hx
      refine⟨i+1,?_,by rw [List.length_cons]; omega,?_,h4⟩
      · rw [Lib.indexByte,hb,if_neg (by decide),h1,if_neg (by
          intro hh
          have:=beq_iff_eq.1 hh
          omega)]
        push_cast; rfl
      · rw [FL.prt,if_neg hx,h3]; rfl
theorem zfH (s:ByteArray)(i:Nat):bl (s.extract 0 i)=(bl s).take i:=by rw [zew,List.drop_zero]
theorem zbW (s:ByteArray)(i:Nat):bl (s.extract i s.size)=(bl s).drop i:=by
  rw [zew,List.take_of_length_le (by rw [zz]; exact Nat.le_refl _)]
def SplP (s:ByteArray)(c:UInt8)(v:Value)(h':Eng.Heap):Prop:=∃ a ws,v=.slice a ws.length ws.length∧Row h' a (zaa ws)∧ws.map bl=FL.prt c (bl s)
theorem zlg (s:ByteArray)(c:UInt8)(h:Eng.Heap)(hs:s.size≤100000) :
    zb Tryz.prog 122 #[.string s,.string ⟨#[c]⟩,.int .i64 0,.int .i64 (-1)] h (fun v h'=>SplP s c v h'∧Ext h h'):=by
  have hne:¬ ((⟨#[c]⟩:ByteArray)=⟨#[]⟩):=fun e=>by
    have:=congrArg (fun b:ByteArray=>b.size) e
    simp [ByteArray.size] at this
  have hsz:(⟨#[c]⟩:ByteArray).size=1:=rfl
  (refine zh Tryz.func122 rfl bod122 ?_; simp only [Tryz.ntmps122,Tryz.results122,za,zm,splice,Value.cells,Value.oneCell',Nat.reduceAdd,Nat.reduceSub,Nat.reduceMul,Nat.reduceLeDiff,Int.reduceEq,Nat.reduceEqDiff,zbm])
  simp only [hne,decide_false,za,Value.cells,Value.oneCell',Nat.reduceAdd,Nat.reduceSub,Nat.reduceMul,Nat.reduceLeDiff,Int.reduceEq,Nat.reduceEqDiff,zbm]
  refine⟨fun _=>?_,fun hh=>absurd (by decide) hh⟩
  refine zb.mono (count152 s c h) ?_
  rintro v h1 ⟨rfl,rfl⟩
  obtain⟨K,hK⟩:∃ K,K=(bl s).count c:=⟨_,rfl⟩
  have hK2:Lib.countByte s.data.toList c=K:=hK.symm
  have hKl:K≤s.size:=by rw [hK,← zz]; exact List.count_le_length
  have emn:(if (s.size:Int)+1<((K:Nat):Int)+1 then (s.size:Int)+1 else ((K:Nat):Int)+1)=((K+1:Nat):Int):=by split <;> omega
  have es:((K+1:Nat):Int) - 1=(K:Int):=by omega
  rw [hK2]
  simp only [emn,es,Int.toNat_natCast,za,Value.cells,Value.oneCell',Nat.reduceAdd,Nat.reduceSub,Nat.reduceMul,Nat.reduceLeDiff,Int.reduceEq,Nat.reduceEqDiff,zbm]
  refine⟨by rw [zg]; omega,by rw [zg]; omega,by omega,by omega,by omega,by omega,by rw [zg]; omega,?_⟩
  have q1:(h1.push (.cells (List.replicate (K+1) [Value.string ⟨#[]⟩]).flatten.toArray 9))[h1.size]?=some (.cells (zaa (List.replicate (K+1) ⟨#[]⟩)).toArray 9):=by
    rw [zy]
    congr 3
    simp [zaa]
  refine zX [0,10,11,34,35,36,37,38,39,40,41,42,43,44,45,46,47,48,49,50,51,52,53,54,55,56,57] (fun e h'=>Ext h1 h'∧∃ (i:Nat) (r:ByteArray) (done:List ByteArray),i≤K∧e 10=.int .i64 i∧e 0=.string r∧done.length=i∧FL.prt c (bl s)=done.map bl++FL.prt c (bl r)∧(bl r).count c+i=K∧r.size≤s.size∧h'[h1.size]?=some (.cells (zaa (done++List.replicate (K+1 - i) ⟨#[]⟩)).toArray 9)) (fun e _=>match e 10 with | .int _ q=>K - q.toNat | _=>0) ⟨(Ext.refl h1).push _,0,s,[],by omega,rfl,rfl,rfl,rfl,by omega,Nat.le_refl _,q1⟩ ?_
  rintro e h2 ⟨x2,i,r,done,hi,he,he0,hdl,hpr,hcn,hrs,hb⟩
  have sl:(zaa (done++List.replicate (K+1 - i) ⟨#[]⟩)).length=K+1:=by
    rw [zaQ,List.length_append,List.length_replicate]; omega
  have sp:∀ t:ByteArray,splice (zaa (done++List.replicate (K+1 - i) ⟨#[]⟩)) i [.string t]=zaa (done++[t]++List.replicate (K+1 - (i+1)) ⟨#[]⟩):=fun t=>by
    have e1:K+1 - i=(K+1 - (i+1))+1:=by omega
    rw [e1,List.replicate_succ]
    unfold splice zaa
    rw [List.map_append,List.map_append,List.map_append,List.map_cons]
    rw [List.take_left' (by rw [List.length_map]; exact hdl)]
    have e2:i+[Value.string t].length=(done.map Value.string).length+1:=by rw [List.length_map,hdl]; rfl
    rw [e2,← List.drop_drop,List.drop_left' rfl]
    simp
  by_cases hin:i<K
  · have hlt:(i:Int)<(K:Int):=by omega
    have meas:K - ((i:Int)+1).toNat<K - (i:Int).toNat:=by omega
    obtain⟨m,m1,m2,m3,m4⟩:=zmb c (bl r) (by omega)
    rw [zz] at m2
    have m1':Lib.indexByte r.data.toList c=m:=m1
    have mn:¬ ((m:Nat):Int)<0:=by omega
    have em0:((m:Nat):Int)+0=(m:Int):=by omega
    have em1:((m:Nat):Int)+1=((m+1:Nat):Int):=by omega
    simp only [he,he0,hlt,decide_true,za,Value.cells,Value.oneCell',Nat.reduceAdd,Nat.reduceSub,Nat.reduceMul,Nat.reduceLeDiff,Int.reduceEq,Nat.reduceEqDiff,zbm]
    refine zb.mono (index153 r c h2) ?_
    rintro v h3 ⟨rfl,rfl⟩
    rw [m1']
    simp only [he,he0,mn,em0,hsz,hb,decide_false,Int.toNat_natCast,za,Value.cells,Value.oneCell',Nat.reduceAdd,Nat.reduceSub,Nat.reduceMul,Nat.reduceLeDiff,Int.reduceEq,Nat.reduceEqDiff,zbm]
    refine⟨by rw [zg]; omega,by omega,by omega,by omega,by omega,rfl,?_⟩
    refine zat hb (by rw [sl]; first | omega | (simp only [List.length_cons,List.length_nil]; omega)) fun h4 g4 u4=>?_
    rw [sp] at g4
    simp only [he,he0,em1,hsz,Int.toNat_natCast,za,Value.cells,Value.oneCell',Nat.reduceAdd,Nat.reduceSub,Nat.reduceMul,Nat.reduceLeDiff,Int.reduceEq,Nat.reduceEqDiff,zbm]
    refine⟨by rw [zg]; omega,by omega,by omega,by omega,by rw [zg]; omega,?_⟩
    refine zD (by kernel_rfl) ⟨u4.ext x2 (Nat.le_refl _),i+1,r.extract (m+1) r.size,done++[r.extract 0 m],by omega,by first | rfl | (push_cast; rfl),rfl,by rw [List.length_append,hdl]; rfl,?_,?_,?_,g4⟩ meas
    · rw [hpr,m3,List.map_append,zbW,List.append_assoc]
      congr 1
      rw [List.map_cons,List.map_nil,zfH]
      rfl
    · rw [zbW]; omega
    · rw [zc5 _ _ _ (by omega) (Nat.le_refl _)]; omega
  obtain rfl:i=K:=by omega
  simp only [he,he0,hb,show ¬ ((i:Int)<(i:Int)) by omega,decide_false,Int.toNat_natCast,za,Value.cells,Value.oneCell',Nat.reduceAdd,Nat.reduceSub,Nat.reduceMul,Nat.reduceLeDiff,Int.reduceEq,Nat.reduceEqDiff,zbm]
  refine⟨by omega,rfl,?_⟩
  refine zat hb (by rw [sl]; first | omega | (simp only [List.length_cons,List.length_nil]; omega)) fun h4 g4 u4=>?_
  rw [sp,show i+1 - (i+1)=0 by omega,List.replicate_zero,List.append_nil] at g4
  have ei1:((i:Int)+1)=((i+1:Nat):Int):=by omega
  simp only [he,ei1,Int.toNat_natCast,za,Value.cells,Value.oneCell',Nat.reduceAdd,Nat.reduceSub,Nat.reduceMul,Nat.reduceLeDiff,Int.reduceEq,Nat.reduceEqDiff,zbm]
  have hfin:FL.prt c (bl r)=[bl r]:=by
    have h1:=zfP c (bl r)
    refine FL.zet c (bl r) fun hm=>?_
    have:=List.count_pos_iff.2 hm
    omega
  refine⟨by rw [zg]; omega,by omega,by omega,by omega,by omega,⟨some ⟨h1.size,0,none⟩,done++[r],?_,Row.block g4,?_⟩,u4.ext x2 (Nat.le_refl _)⟩
  · have e1:(((i+1:Nat):Int) - ((0:Nat):Int)).toNat=i+1:=by omega
    have e2:(done++[r]).length=i+1:=by rw [List.length_append,hdl]; rfl
    rw [e1,e2,ite_self]
  · rw [hpr,hfin,List.map_append]; rfl
theorem zhV (s:ByteArray)(c:UInt8)(h:Eng.Heap)(hs:s.size≤100000) :
    zb Tryz.prog 93 #[.string s,.string ⟨#[c]⟩] h (fun v h'=>SplP s c v h'∧Ext h h'):=by
  (refine zh Tryz.func93 rfl bod93 ?_; simp only [Tryz.ntmps93,Tryz.results93,za,zm,splice,Value.cells,Value.oneCell',Nat.reduceAdd,Nat.reduceSub,Nat.reduceMul,Nat.reduceLeDiff,Int.reduceEq,Nat.reduceEqDiff])
  refine zb.mono (zlg s c h hs) ?_
  rintro v h1 ⟨S,x1⟩
  simp only [za,Value.cells,Value.oneCell',Nat.reduceAdd,Nat.reduceSub,Nat.reduceMul,Nat.reduceLeDiff,Int.reduceEq,Nat.reduceEqDiff]
  exact⟨S,x1⟩
def lstB (s:ByteArray)(c:UInt8):Bool:=decide (0<s.size∧at_ s (s.size - 1)=c.toNat)
theorem zmq (s:ByteArray)(c:UInt8):lstB s c=true↔s.extract (s.size - 1) s.size=⟨#[c]⟩:=by
  unfold lstB
  rw [decide_eq_true_eq]
  constructor
  · rintro⟨h0,h1⟩
    apply zdo
    rw [zbW]
    have h2:=List.drop_eq_getElem_cons (l:=bl s) (i:=s.size - 1) (by rw [zz]; omega)
    rw [h2,List.drop_eq_nil_of_le (by rw [zz]; omega)]
    have h3:(bl s)[s.size - 1]'(by rw [zz]; omega)=c:=by
      apply UInt8.toNat_inj.1
      rw [← h1]
      unfold at_
      rw [zbs,List.getD_eq_getElem?_getD,List.getElem?_eq_getElem (by rw [zz]; omega)]
      rfl
    rw [h3]
    rfl
  · intro h
    have h1:=congrArg bl h
    rw [zbW] at h1
    have h0:0<s.size:=by
      have:=congrArg List.length h1
      rw [List.length_drop,zz] at this
      have h2:(bl ⟨#[c]⟩).length=1:=rfl
      omega
    refine⟨h0,?_⟩
    rw [List.drop_eq_getElem_cons (by rw [zz]; omega)] at h1
    have h2:(bl s)[s.size - 1]'(by rw [zz]; omega)=c:=by
      have:=List.head_eq_of_cons_eq h1
      exact this
    unfold at_
    rw [zbs,List.getD_eq_getElem?_getD,List.getElem?_eq_getElem (by rw [zz]; omega),← h2]
    rfl
theorem zkt (s:ByteArray)(c:UInt8)(h:Eng.Heap)(hs:s.size≤100000):zb Tryz.prog 150 #[.string s,.string ⟨#[c]⟩] h (fun v h'=>v=.bool (lstB s c)∧h'=h):=by
  have hsz:(⟨#[c]⟩:ByteArray).size=1:=rfl
  (refine zh Tryz.func150 rfl bod150 ?_; simp only [Tryz.ntmps150,Tryz.results150,za,zm,splice,Value.cells,Value.oneCell',Nat.reduceAdd,Nat.reduceSub,Nat.reduceMul,Nat.reduceLeDiff,Int.reduceEq,Nat.reduceEqDiff,Tryz.underlying9])
  by_cases h1:0<s.size
  · have h1i:((1:Nat):Int)≤(s.size:Int):=by omega
    have e1:(s.size:Int) - ((1:Nat):Int)=((s.size - 1:Nat):Int):=by omega
    simp only [hsz,h1i,e1,zn,decide_true,Int.toNat_natCast,za,Value.cells,Value.oneCell',Nat.reduceAdd,Nat.reduceSub,Nat.reduceMul,Nat.reduceLeDiff,Int.reduceEq,Nat.reduceEqDiff,Tryz.underlying9]
    have hd:decide (s.extract (s.size - 1) s.size=⟨#[c]⟩)=lstB s c:=by
      rw [Bool.eq_iff_iff,decide_eq_true_eq]
      exact (zmq s c).symm
    simp only [hd]
    refine⟨by rw [zg]; omega,?_⟩
    repeat (refine And.intro (by first | omega | (rw [zg]; omega) | rfl | assumption) ?_)
    first | omega | rfl | trivial
  · have h1i:¬ ((1:Nat):Int)≤(s.size:Int):=by omega
    have hf:lstB s c=false:=by
      unfold lstB
      rw [decide_eq_false]
      exact fun hh=>h1 hh.1
    simp only [hsz,h1i,zn,hf,decide_false,za,Value.cells,Value.oneCell',Nat.reduceAdd,Nat.reduceSub,Nat.reduceMul,Nat.reduceLeDiff,Int.reduceEq,Nat.reduceEqDiff,Tryz.underlying9]
theorem zln (s:ByteArray)(c:UInt8)(h:Eng.Heap)(hs:s.size≤100000):zb Tryz.prog 92 #[.string s,.string ⟨#[c]⟩] h (fun v h'=>v=(if lstB s c then .tuple #[.string (s.extract 0 (s.size - 1)),.bool true] else .tuple #[.string s,.bool false])∧h'=h):=by
  have hsz:(⟨#[c]⟩:ByteArray).size=1:=rfl
  have c121:zb Tryz.prog 121 #[.string s,.string ⟨#[c]⟩] h (fun v h'=>v=(if lstB s c then .tuple #[.string (s.extract 0 (s.size - 1)),.bool true] else .tuple #[.string s,.bool false])∧h'=h):=by
    (refine zh Tryz.func121 rfl bod121 ?_; simp only [Tryz.ntmps121,Tryz.results121,za,zm,splice,Value.cells,Value.oneCell',Nat.reduceAdd,Nat.reduceSub,Nat.reduceMul,Nat.reduceLeDiff,Int.reduceEq,Nat.reduceEqDiff,Tryz.underlying9])
    refine zb.mono (zkt s c h hs) ?_
    rintro v h1 ⟨rfl,rfl⟩
    cases hb:lstB s c with
    | false=>
      simp only [Bool.not_false,Bool.false_eq_true,if_false,za,Value.cells,Value.oneCell',Nat.reduceAdd,Nat.reduceSub,Nat.reduceMul,Nat.reduceLeDiff,Int.reduceEq,Nat.reduceEqDiff,Tryz.underlying9]
    | true=>
      have h0:0<s.size:=by
        unfold lstB at hb
        exact (of_decide_eq_true hb).1
      have e1:(s.size:Int) - ((1:Nat):Int)=((s.size - 1:Nat):Int):=by omega
      simp only [hsz,e1,Bool.not_true,if_true,Int.toNat_natCast,za,Value.cells,Value.oneCell',Nat.reduceAdd,Nat.reduceSub,Nat.reduceMul,Nat.reduceLeDiff,Int.reduceEq,Nat.reduceEqDiff,Tryz.underlying9]
      refine⟨by rw [zg]; omega,?_,?_,?_⟩
      · simp
      · simp
      · omega
  (refine zh Tryz.func92 rfl bod92 ?_; simp only [Tryz.ntmps92,Tryz.results92,za,zm,splice,Value.cells,Value.oneCell',Nat.reduceAdd,Nat.reduceSub,Nat.reduceMul,Nat.reduceLeDiff,Int.reduceEq,Nat.reduceEqDiff])
  refine zb.mono c121 ?_
  rintro v h1 ⟨rfl,rfl⟩
  cases hb:lstB s c with
  | false=>simp only [Bool.false_eq_true,if_false,za,Value.cells,Value.oneCell',Nat.reduceAdd,Nat.reduceSub,Nat.reduceMul,Nat.reduceLeDiff,Int.reduceEq,Nat.reduceEqDiff]
  | true=>simp only [if_true,za,Value.cells,Value.oneCell',Nat.reduceAdd,Nat.reduceSub,Nat.reduceMul,Nat.reduceLeDiff,Int.reduceEq,Nat.reduceEqDiff]
end Go.Proofs.YtepaekbjoombpaaGreatDoor
end
