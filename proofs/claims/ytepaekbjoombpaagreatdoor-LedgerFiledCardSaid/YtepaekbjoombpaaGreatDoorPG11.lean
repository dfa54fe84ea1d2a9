/- Texts joined by pack.py: lemmas for YtepaekbjoombpaaGreatDoorFiled. No condition. -/
import Derived.Test.YtepaekbjoombpaaGreatDoorPG10
import Derived.Lib.LaidTab
import Derived.MakeChecks
import Derived.Stop.LaidErr
import Derived.Test.YtepaekbjoombpaaGreatDoorRows
import Derived.ProofKit
import Derived.OpenShut
import Derived.Below
import Derived.WideKeyArgs
import Derived.ChangeSlices
set_option linter.unusedSimpArgs false
set_option linter.unusedVariables false
set_option linter.defProp false
section
namespace Go.Proofs.YtepaekbjoombpaaGreatDoor
open Go Go.Proofs Go.Run Go.Eng
set_option maxRecDepth 100000
@[reducible] noncomputable def M:Fm:=⟨za7 Pt.ff18.nt,Pt.ff18.nt⟩
noncomputable def E1:E:=fromE M [(0,.bool false),(1,.ptr 5 0),(2,.slice 56 0 4 4),(3,.int .i64 0),(5,.int .i64 3),(6,.own 170 2),(7,.int .i64 0),(9,.int .i64 2),(10,.ptr 219 0),(11,.int .i64 0),(13,.int .i64 25),(15,.int .i64 16),(16,.ptr 475 0),(17,.int .i64 0),(19,.int .i64 16),(21,.int .i64 2),(22,.ptr 612 0),(23,.int .i64 0)] (.leaf .any)
noncomputable def S1:S:=⟨fromV [(4,.row [.int .i64 1,.int .i64 0,.int .i64 1,.int .i64 5,.int .i64 3,.int .i64 1,.int .i64 2,.int .i64 3,.int .i64 3,.int .i64 2,.int .i64 0,.int .i64 1] 26 false),(5,.row [.int .i64 4,.int .i64 2,.slice 4 0 3 3] 24 false),(56,.row [.int .i64 (-4),.int .i64 2,.int .i64 2,.int .i64 0] 2 false),(170,.row [.int .i64 1,.int .i64 2] 3 true),(219,.row [.int .i64 4,.int .i64 2,.own 275 4] 24 false),(275,.row [.int .i64 1,.int .i64 0,.int .i64 1,.int .i64 5,.int .i64 3,.int .i64 1,.int .i64 2,.int .i64 3,.int .i64 3,.int .i64 2,.int .i64 0,.int .i64 1,.int .i64 3,.int .i64 3,.int .i64 0,.int .i64 4] 26 true),(474,.row [.int .i64 1,.int .i64 0,.int .i64 1,.int .i64 5,.int .i64 3,.int .i64 1,.int .i64 2,.int .i64 3,.int .i64 3,.int .i64 2,.int .i64 0,.int .i64 1,.int .i64 4,.int .i64 2,.int .i64 1,.int .i64 3] 26 true),(475,.row [.int .i64 4,.int .i64 2,.own 474 4] 24 false),(611,.row [.int .i64 1,.int .i64 0,.int .i64 1,.int .i64 5,.int .i64 3,.int .i64 1,.int .i64 2,.int .i64 3,.int .i64 3,.int .i64 2,.int .i64 0,.int .i64 1] 26 true),(612,.row [.int .i64 4,.int .i64 3,.own 611 3] 24 false)] (.leaf none),613,0⟩
theorem c0:seg Pt.pr 1000000 M ((segs Pt.ff18.body).take 13) [0,1,2,3,5,6,7,9,10,11,13,15,16,17,19,21,22,23] [4,5,56,170,219,275,474,475,611,612] (.leaf zae) [] s0=some (E1,[],S1):=by kernel_rfl
noncomputable def E2:E:=fromE M [(0,.bool false),(1,.ptr 5 0),(2,.slice 56 0 4 4),(3,.int .i64 0),(5,.int .i64 3),(6,.own 170 2),(7,.int .i64 0),(9,.int .i64 2),(10,.ptr 219 0),(11,.int .i64 0),(13,.int .i64 25),(15,.int .i64 16),(16,.ptr 475 0),(17,.int .i64 0),(19,.int .i64 16),(21,.int .i64 2),(22,.ptr 612 0),(23,.int .i64 0),(25,.int .i64 25),(26,.int .i64 1),(27,.int .i64 0),(29,.int .i64 14),(30,.int .i64 2),(31,.int .i64 0),(32,.int .i64 2),(33,.int .i64 0)] (.leaf .any)
noncomputable def S2:S:=⟨fromV [(4,.row [.int .i64 1,.int .i64 0,.int .i64 1,.int .i64 5,.int .i64 3,.int .i64 1,.int .i64 2,.int .i64 3,.int .i64 3,.int .i64 2,.int .i64 0,.int .i64 1] 26 false),(5,.row [.int .i64 4,.int .i64 2,.slice 4 0 3 3] 24 false),(56,.row [.int .i64 (-4),.int .i64 2,.int .i64 2,.int .i64 0] 2 false),(170,.row [.int .i64 1,.int .i64 2] 3 true),(219,.row [.int .i64 4,.int .i64 2,.own 275 4] 24 false),(275,.row [.int .i64 1,.int .i64 0,.int .i64 1,.int .i64 5,.int .i64 3,.int .i64 1,.int .i64 2,.int .i64 3,.int .i64 3,.int .i64 2,.int .i64 0,.int .i64 1,.int .i64 3,.int .i64 3,.int .i64 0,.int .i64 4] 26 true),(474,.row [.int .i64 1,.int .i64 0,.int .i64 1,.int .i64 5,.int .i64 3,.int .i64 1,.int .i64 2,.int .i64 3,.int .i64 3,.int .i64 2,.int .i64 0,.int .i64 1,.int .i64 4,.int .i64 2,.int .i64 1,.int .i64 3] 26 true),(475,.row [.int .i64 4,.int .i64 2,.own 474 4] 24 false),(611,.row [.int .i64 1,.int .i64 0,.int .i64 1,.int .i64 5,.int .i64 3,.int .i64 1,.int .i64 2,.int .i64 3,.int .i64 3,.int .i64 2,.int .i64 0,.int .i64 1] 26 true),(612,.row [.int .i64 4,.int .i64 3,.own 611 3] 24 false)] (.leaf none),1025,0⟩
theorem c1:seg Pt.pr 1000000 M (((segs Pt.ff18.body).drop 13).take 5) [0,1,2,3,5,6,7,9,10,11,13,15,16,17,19,21,22,23,25,26,27,29,30,31,32,33] [4,5,56,170,219,275,474,475,611,612] E1 [] S1=some (E2,[],S2):=by kernel_rfl
noncomputable def E3:E:=fromE M [(0,.bool false),(1,.ptr 5 0),(2,.slice 56 0 4 4),(3,.int .i64 0),(5,.int .i64 3),(6,.own 170 2),(7,.int .i64 0),(9,.int .i64 2),(10,.ptr 219 0),(11,.int .i64 0),(13,.int .i64 25),(15,.int .i64 16),(16,.ptr 475 0),(17,.int .i64 0),(19,.int .i64 16),(21,.int .i64 2),(22,.ptr 612 0),(23,.int .i64 0),(25,.int .i64 25),(26,.int .i64 1),(27,.int .i64 0),(29,.int .i64 14),(30,.int .i64 2),(31,.int .i64 0),(32,.int .i64 2),(33,.int .i64 0),(35,.int .i64 25),(36,.own 1241 2),(37,.int .i64 0),(38,.str [102]),(39,.int .i64 0),(40,.int .i64 0),(41,.int .i64 14),(42,.int .i64 8),(43,.str [52,32,50,32,101,10,49,32,48,32,49,32,53,32,102,10,51,32,49,32,50,32,51,32,98,10,51,32,50,32,48,32,49,32,103,10,51,32,57,32,108,10]),(44,.int .i64 0)] (.leaf .any)
noncomputable def S3:S:=⟨fromV [(4,.row [.int .i64 1,.int .i64 0,.int .i64 1,.int .i64 5,.int .i64 3,.int .i64 1,.int .i64 2,.int .i64 3,.int .i64 3,.int .i64 2,.int .i64 0,.int .i64 1] 26 false),(5,.row [.int .i64 4,.int .i64 2,.slice 4 0 3 3] 24 false),(56,.row [.int .i64 (-4),.int .i64 2,.int .i64 2,.int .i64 0] 2 false),(170,.row [.int .i64 1,.int .i64 2] 3 true),(219,.row [.int .i64 4,.int .i64 2,.own 275 4] 24 false),(275,.row [.int .i64 1,.int .i64 0,.int .i64 1,.int .i64 5,.int .i64 3,.int .i64 1,.int .i64 2,.int .i64 3,.int .i64 3,.int .i64 2,.int .i64 0,.int .i64 1,.int .i64 3,.int .i64 3,.int .i64 0,.int .i64 4] 26 true),(474,.row [.int .i64 1,.int .i64 0,.int .i64 1,.int .i64 5,.int .i64 3,.int .i64 1,.int .i64 2,.int .i64 3,.int .i64 3,.int .i64 2,.int .i64 0,.int .i64 1,.int .i64 4,.int .i64 2,.int .i64 1,.int .i64 3] 26 true),(475,.row [.int .i64 4,.int .i64 2,.own 474 4] 24 false),(611,.row [.int .i64 1,.int .i64 0,.int .i64 1,.int .i64 5,.int .i64 3,.int .i64 1,.int .i64 2,.int .i64 3,.int .i64 3,.int .i64 2,.int .i64 0,.int .i64 1] 26 true),(612,.row [.int .i64 4,.int .i64 3,.own 611 3] 24 false),(1241,.row [.int .i64 1,.int .i64 0,.int .i64 4,.int .i64 2,.int .i64 1,.int .i64 2] 139 true)] (.leaf none),1385,0⟩
theorem c2:seg Pt.pr 1000000 M ((((segs Pt.ff18.body).drop 13).drop 5).take 5) [0,1,2,3,5,6,7,9,10,11,13,15,16,17,19,21,22,23,25,26,27,29,30,31,32,33,35,36,37,38,39,40,41,42,43,44] [4,5,56,170,219,275,474,475,611,612,1241] E2 [] S2=some (E3,[],S3):=by kernel_rfl
theorem c3:lastB Pt.pr 1000000 M Pt.ff18.res ((((segs Pt.ff18.body).drop 13).drop 5).drop 5) E3 [] S3=true:=by kernel_rfl
theorem works18 (h:Eng.Heap):zb Tryz.prog 18 #[] h (fun v h'=>v=.bool true∧Ext h h'):=
  zlA Pt.ok Pt.lb (f:=18) (fi:=Pt.ff18) (by kernel_rfl) (by decide +kernel) (.next 13 _ _ c0 (.next 5 _ _ c1 (.next 5 _ _ c2 (.last c3)))) h
end Go.Proofs.YtepaekbjoombpaaGreatDoor
end
section
namespace Go.Proofs.YtepaekbjoombpaaGreatDoor
open Go Go.Proofs Go.Eng Go.Run Tab
set_option maxRecDepth 100000
set_option linter.unusedSimpArgs false
set_option linter.unusedVariables false
set_option linter.defProp false
set_option maxHeartbeats 4000000
set_option linter.defProp false
noncomputable def ldA (s:ByteArray):Int:=if ldE s=0 then (zaS (lnsB s):Int) else 0
noncomputable def ldZ (s:ByteArray):Int:=if ldE s=0 then (zbl (lnsB s):Int) else 0
noncomputable def ldX (s:ByteArray):List En:=if ldE s=0 then esOf (lnsB s) else []
theorem LdP.norm {s:ByteArray}{v:Value}{h:Eng.Heap}(H:LdP s v h):∃ a n c,v=.tuple #[.agg #[.int .i64 (ldA s),.int .i64 (ldZ s),.slice a n c],.int .i64 (ldE s)]∧n=(ldX s).length∧Row h a (ensV (ldX s)):=by
  unfold ldA ldZ ldX
  rcases H with⟨h0,a,n,c,h1,h2,h3⟩ | ⟨h0,h1⟩
  · rw [if_pos h0,if_pos h0,if_pos h0,h0]
    exact⟨a,n,c,h1,h2,h3⟩
  · rw [if_neg h0,if_neg h0,if_neg h0]
    exact⟨none,0,0,h1,rfl,.inl rfl⟩
end Go.Proofs.YtepaekbjoombpaaGreatDoor
end
section
namespace Go.Proofs.YtepaekbjoombpaaGreatDoor
open Go Go.Proofs Go.Eng
set_option maxRecDepth 100000
set_option linter.unusedSimpArgs false
set_option linter.unusedVariables false
set_option linter.defProp false
theorem sg_nat (l:List UInt8):(sgL l).toNat=97+sumL l l.length % 13:=by
  unfold sgL
  rw [zcv (by omega)]
theorem dgb_no {n:Nat}{c:UInt8}(h:isD c=false):c ∉ dgb n:=fun hm=>by
  rw [zey n c hm] at h; cases h
theorem zmr {ns:List Nat}(h0:ns≠[]):FL.prt 32 (txtL ns)=ns.map dgb:=by
  unfold txtL
  refine FL.zkl 32 _ (by simpa using h0) fun w hw=>?_
  obtain⟨n,-,rfl⟩:=List.mem_map.1 hw
  exact dgb_no rfl
theorem nums_txt {ns:List Nat}(h0:ns≠[]):numsL (txtL ns)=ns:=by
  unfold numsL
  rw [zmr h0,List.map_map]
  exact (List.map_congr_left fun n _=>valW_dgb n).trans (List.map_id _)
theorem zmM {ns:List Nat}(h0:ns≠[])(hb:∀ n∈ns,n<1000000):zdm (txtL ns) ns.length:=by
  unfold zdm
  rw [zmr h0,List.length_map]
  refine⟨rfl,fun w hw=>?_⟩
  obtain⟨n,hn,rfl⟩:=List.mem_map.1 hw
  exact⟨zgr n,zch (k:=5) (hb n hn)⟩
theorem zmc {ns:List Nat}(h0:ns≠[])(h12:(txtL ns).length≤12)(hb:∀ n∈ns,n<1000000):rdOK (bs (linT ns)) ns.length∧rowN (bs (linT ns))=ns∧rgtB (bs (linT ns))=true:=by
  have hp:=zkE h0
  have hl:(linT ns).length=(txtL ns).length+2:=by unfold linT; rw [List.length_append]; rfl
  have hs:(bs (linT ns)).size=(txtL ns).length+2:=by rw [zby,hl]
  have hx:(bs (linT ns)).extract 0 ((bs (linT ns)).size - 2)=bs (txtL ns):=by
    apply zdo
    rw [zfH,zao,zao,hs,Nat.add_sub_cancel]
    unfold linT
    exact List.take_left' rfl
  have ht:zbk (bs (linT ns))=txtL ns:=by unfold zbk; rw [hx,zao]
  have a2:at_ (bs (linT ns)) ((bs (linT ns)).size - 2)=32:=by
    unfold at_
    rw [zbs,zao,hs,Nat.add_sub_cancel]
    unfold linT
    rw [List.getD_eq_getElem?_getD,List.getElem?_append_right (Nat.le_refl _),Nat.sub_self]
    rfl
  have a1:at_ (bs (linT ns)) ((bs (linT ns)).size - 1)=(sgL (txtL ns)).toNat:=by
    unfold at_
    rw [zbs,zao,hs]
    unfold linT
    rw [List.getD_eq_getElem?_getD,List.getElem?_append_right (by omega),show (txtL ns).length+2 - 1 - (txtL ns).length=1 by omega]
    rfl
  have hg:=sg_nat (txtL ns)
  refine⟨⟨(zY _).2 ⟨by omega,by rw [hx]; exact zj8 h0 h12,a2,by omega,by omega⟩,by rw [ht]; exact zmM h0 hb⟩,by unfold rowN; rw [ht,nums_txt h0],?_⟩
  unfold rgtB
  rw [hx,zgy]
  refine decide_eq_true ?_
  apply zdo
  rw [zbW,zao,zao,hs]
  unfold linT
  rw [List.drop_append,List.drop_of_length_le (by omega),show (txtL ns).length+2 - 1 - (txtL ns).length=1 by omega]
  rfl
theorem line_of {w:ByteArray}{many:Nat}(hr:rdOK w many)(hg:rgtB w=true):bl w=linT (rowN w):=by
  obtain⟨h3,ht,h32,-⟩:=(zY w).1 hr.1
  have htx:txtL (rowN w)=zbk w:=by
    unfold txtL rowN numsL
    rw [List.map_map]
    have e:(FL.prt 32 (zbk w)).map (dgb ∘ valW)=FL.prt 32 (zbk w):=(List.map_congr_left (g:=id) fun u hu=>zkx (hr.2.2 u hu).1).trans (List.map_id _)
    rw [e]
    exact FL.zj9 32 _
  have hxb:bl (w.extract 0 (w.size - 2))=zbk w:=rfl
  have hxs:bs (zbk w)=w.extract 0 (w.size - 2):=by rw [← hxb,bs_bl]
  have e1:bl (w.extract (w.size - 1) w.size)=[sgL (zbk w)]:=by
    have:=of_decide_eq_true hg
    rw [this,← hxs,zgy,zao]
  unfold linT
  rw [htx]
  rw [zbW] at e1
  have hl:=zz w
  have h2:(bl w).drop (w.size - 2)=[32,sgL (zbk w)]:=by
    rw [List.drop_eq_getElem_cons (by omega),show w.size - 2+1=w.size - 1 by omega,e1]
    congr 1
    have h4:(at_ w (w.size - 2))=((bl w)[w.size - 2]'(by omega)).toNat:=by
      unfold at_
      rw [zbs,List.getD_eq_getElem?_getD,List.getElem?_eq_getElem (by omega)]
      rfl
    apply UInt8.toNat_inj.1
    rw [← h4,h32]
    rfl
  have h5:(bl w).take (w.size - 2)++[32,sgL (zbk w)]=bl w:=by rw [← h2,List.take_append_drop]
  rw [← zfH,hxb] at h5
  exact h5.symm
theorem zgw:∀ LL:List (List UInt8),LL≠[]→FL.jn 10 LL++[10]=LL.flatMap fun l=>l++[10]
  | [],h=>absurd rfl h
  | [l],_=>by simp [FL.jn]
  | l::m::LL,_=>by
    have ih:=zgw (m::LL) (by simp)
    rw [List.flatMap_cons,← ih]
    show (l++10::FL.jn 10 (m::LL))++[10]=_
    simp
theorem lin_no (ns:List Nat):(10:UInt8) ∉ linT ns:=by
  unfold linT
  intro h
  rcases List.mem_append.1 h with h | h
  · have:=zkq ns 10 h
    exact absurd this (by decide)
  · simp only [List.mem_cons,List.not_mem_nil,or_false] at h
    rcases h with h | h
    · exact absurd h (by decide)
    · have h1:=sg_nat (txtL ns)
      rw [← h] at h1
      have h2:(10:UInt8).toNat=10:=rfl
      omega
def zB (k z:Nat)(es:List En):List (List Nat):=[k,z]::(es.map eN++[[es.length,(totL es).toNat]])
theorem zin (k z:Nat)(es:List En):zaU k z es=(zB k z es).flatMap fun ns=>linT ns++[10]:=by
  unfold zaU zB
  rw [List.flatMap_cons,List.flatMap_append,List.flatMap_map]
  simp [linL]
theorem zoB {α:Type}{L:List α}(d:α)(h:2≤L.length):L=L.getD 0 d::(midL L++[L.getD (L.length - 1) d]):=by
  apply List.ext_getElem?
  intro i
  have hm:=zfU L
  rcases Nat.lt_or_ge i 1 with h0 | h0
  · obtain rfl:i=0:=by omega
    rw [List.getElem?_cons_zero,List.getD_eq_getElem?_getD,List.getElem?_eq_getElem (by omega)]
    rfl
  · obtain⟨j,rfl⟩:∃ j,i=j+1:=⟨i - 1,by omega⟩
    rw [List.getElem?_cons_succ]
    rcases Nat.lt_or_ge j (L.length - 2) with h1 | h1
    · rw [List.getElem?_append_left (by omega)]
      have h2:=zhX (L:=L) d h1
      rw [List.getD_eq_getElem?_getD,List.getD_eq_getElem?_getD,List.getElem?_eq_getElem (by omega),List.getElem?_eq_getElem (by omega)] at h2
      rw [List.getElem?_eq_getElem (by omega),List.getElem?_eq_getElem (by omega)]
      exact congrArg some h2.symm
    · rw [List.getElem?_append_right (by omega),hm]
      rcases Nat.lt_or_ge (j+1) L.length with h3 | h3
      · have e:j+1=L.length - 1:=by omega
        rw [show j - (L.length - 2)=0 by omega,e,List.getElem?_cons_zero,List.getD_eq_getElem?_getD,List.getElem?_eq_getElem (by omega)]
        rfl
      · rw [List.getElem?_eq_none (by omega),List.getElem?_eq_none (by rw [List.length_singleton]; omega)]
end Go.Proofs.YtepaekbjoombpaaGreatDoor
end
section
namespace Go.Proofs.YtepaekbjoombpaaGreatDoor
open Go Go.Proofs Go.Eng
set_option maxRecDepth 100000
set_option linter.unusedSimpArgs false
set_option linter.unusedVariables false
set_option linter.defProp false
theorem zjA {l:List Nat}(h:l.length=2):l=[l.getD 0 0,l.getD 1 0]:=by
  match l,h with
  | [a,b],_=>rfl
theorem eN_enOf {l:List Nat}(h:l.length=4):eN (enOf l)=l:=by
  match l,h with
  | [a,b,c,d],_=>rfl
theorem enOf_eN {acc:Int}{e:En}(h:okE acc e):enOf (eN e)=e:=by
  obtain⟨h1,h2,h3,h4⟩:=h
  obtain⟨d,f,t,a⟩:=e
  have a1:((d.toNat:Nat):Int)=d:=by have:1≤d:=h1.1; omega
  have a2:((f.toNat:Nat):Int)=f:=by have:0≤f:=h2.1; omega
  have a3:((t.toNat:Nat):Int)=t:=by have:0≤t:=h3.1; omega
  have a4:((a.toNat:Nat):Int)=a:=by have:1≤a:=h4.1; omega
  show (⟨((d.toNat:Nat):Int),((f.toNat:Nat):Int),((t.toNat:Nat):Int),((a.toNat:Nat):Int)⟩:En)=_
  rw [a1,a2,a3,a4]
def zam (R:List (List Nat)):List ByteArray:=R.map fun ns=>bs (linT ns)
theorem zfD (k z:Nat)(es:List En):(zB k z es).length=es.length+2:=by
  unfold zB
  rw [List.length_cons,List.length_append,List.length_map,List.length_singleton]
theorem file_jn (R:List (List Nat))(h:R≠[]):(R.flatMap fun ns=>linT ns++[10])=FL.jn 10 (R.map linT)++[10]:=by
  rw [zgw _ (by simpa using h),List.flatMap_map]
theorem lns_of {s:ByteArray}{LL:List (List UInt8)}(h:bl s=FL.jn 10 LL++[10])(h0:LL≠[])(hn:∀ l∈LL,(10:UInt8) ∉ l):lstB s 10=true∧lnsB s=LL.map bs:=by
  have hb:lstB s 10=true:=last_lst (by rw [h,List.getLast?_concat])
  refine⟨hb,?_⟩
  have h1:=zgu hb
  rw [h] at h1
  have h2:=List.append_cancel_right h1
  unfold lnsB
  rw [← h2,FL.zkl 10 LL h0 hn]
theorem zjf (k z:Nat)(es:List En):lstB (bs (zaU k z es)) 10=true∧lnsB (bs (zaU k z es))=zam (zB k z es):=by
  have hne:zB k z es≠[]:=by unfold zB; simp
  have h:=lns_of (s:=bs (zaU k z es)) (LL:=(zB k z es).map linT) (by rw [zao,zin,file_jn _ hne]) (by simpa using hne) fun l hl=>by
    obtain⟨ns,-,rfl⟩:=List.mem_map.1 hl
    exact lin_no ns
  refine⟨h.1,?_⟩
  rw [h.2]
  unfold zam
  rw [List.map_map]
  rfl
section
variable {k z:Nat} {es:List En}
theorem zlK (hc:chk k z es=0):∀ ns∈zB k z es,rdOK (bs (linT ns)) ns.length∧rowN (bs (linT ns))=ns∧rgtB (bs (linT ns))=true:=by
  obtain⟨ha,hl,hz,hok,-⟩:=zdS hc
  have ht:=zcV hok
  have hka:(k:Int)≤8:=by omega
  intro ns hns
  unfold zB at hns
  have two:∀ a b:Nat,a<100→b<1000000→rdOK (bs (linT [a,b])) [a,b].length∧rowN (bs (linT [a,b]))=[a,b]∧rgtB (bs (linT [a,b]))=true:=fun a b h1 h2=>zmc (by simp) (zdP h1 h2) fun n hn=>by
    simp only [List.mem_cons,List.not_mem_nil,or_false] at hn
    omega
  rcases List.mem_cons.1 hns with rfl | hns
  · exact two k z (by omega) (by omega)
  rcases List.mem_append.1 hns with hns | hns
  · obtain⟨e,he,rfl⟩:=List.mem_map.1 hns
    have ho:=hok e he
    refine zmc (by simp [eN]) (zfj hka ho) fun n hn=>?_
    obtain⟨h1,h2,h3,h4⟩:=ho
    simp only [eN,List.mem_cons,List.not_mem_nil,or_false] at hn
    omega
  · rw [List.mem_singleton.1 hns]
    exact two _ _ (by omega) (by omega)
theorem zh1 {i:Nat}(hi:i<(zB k z es).length):(zam (zB k z es)).getD i ⟨#[]⟩=bs (linT ((zB k z es)[i])):=by
  rw [List.getD_eq_getElem?_getD,List.getElem?_eq_getElem (by unfold zam; rw [List.length_map]; exact hi)]
  unfold zam
  rw [List.getElem_map]
  rfl
theorem znL:(zB k z es)[0]?=some [k,z]:=rfl
theorem rows_mid {j:Nat}(hj:j<es.length):(zB k z es)[j+1]?=some (eN es[j]):=by
  unfold zB
  rw [List.getElem?_cons_succ,List.getElem?_append_left (by rw [List.length_map]; exact hj),List.getElem?_map,List.getElem?_eq_getElem hj]
  rfl
theorem ziK:(zB k z es)[es.length+1]?=some [es.length,(totL es).toNat]:=by
  unfold zB
  rw [List.getElem?_cons_succ,List.getElem?_append_right (by rw [List.length_map]; exact Nat.le_refl _),List.length_map,Nat.sub_self]
  rfl
theorem zoa {i:Nat}(hi:i<(zB k z es).length):((zB k z es)[i]).length=zak (zB k z es).length i:=by
  have hl:=zfD k z es
  have hx:=List.getElem?_eq_getElem hi
  obtain⟨x,he⟩:∃ x,x=(zB k z es)[i]:=⟨_,rfl⟩
  rw [← he] at hx ⊢
  clear he
  unfold zak
  rw [hl]
  by_cases h0:i=0
  · subst h0
    rw [znL] at hx
    cases hx
    rfl
  · obtain⟨j,rfl⟩:∃ j,i=j+1:=⟨i - 1,by omega⟩
    rw [if_neg h0]
    by_cases hj:j<es.length
    · rw [rows_mid hj] at hx
      cases hx
      rw [if_neg (by omega)]
      rfl
    · have:j=es.length:=by omega
      subst this
      rw [ziK] at hx
      cases hx
      rw [if_pos rfl]
      rfl
theorem ld_file (hc:chk k z es=0):ldE (bs (zaU k z es))=0∧zaS (lnsB (bs (zaU k z es)))=k∧zbl (lnsB (bs (zaU k z es)))=z∧esOf (lnsB (bs (zaU k z es)))=es:=by
  obtain⟨hb,hL⟩:=zjf k z es
  obtain⟨ha,hl,hz,hok,-⟩:=zdS hc
  have hrd:=zlK hc
  have hlen:=zfD k z es
  have hLl:(zam (zB k z es)).length=es.length+2:=by unfold zam; rw [List.length_map,hlen]
  have r0:rowN ((zam (zB k z es)).getD 0 ⟨#[]⟩)=[k,z]:=by
    rw [zh1 (by omega)]
    exact (hrd _ (List.getElem_mem (by omega))).2.1
  have e1:zaS (zam (zB k z es))=k:=by unfold zaS; rw [r0]; rfl
  have e2:zbl (zam (zB k z es))=z:=by unfold zbl; rw [r0]; rfl
  have e3:esOf (zam (zB k z es))=es:=by
    have hm:midL (zam (zB k z es))=es.map fun e=>bs (linT (eN e)):=by
      unfold midL
      rw [hLl]
      unfold zam zB
      rw [List.map_cons,List.map_append,List.drop_succ_cons,List.drop_zero,Nat.add_sub_cancel,List.map_map]
      exact List.take_left' (by rw [List.length_map])
    unfold esOf
    rw [hm,List.map_map]
    refine (List.map_congr_left (g:=id) fun e he=>?_).trans (List.map_id _)
    have hme:eN e∈zB k z es:=by
      unfold zB
      exact List.mem_cons_of_mem _ (List.mem_append_left _ (List.mem_map_of_mem he))
    show enOf (rowN (bs (linT (eN e))))=e
    rw [(hrd _ hme).2.1]
    exact enOf_eN (hok e he)
  have h3:zcy (zam (zB k z es)):=fun i hi=>by
    have hi2:i<(zB k z es).length:=by omega
    rw [zh1 hi2,show (zam (zB k z es)).length=(zB k z es).length by omega,← zoa hi2]
    exact (hrd _ (List.getElem_mem hi2)).1
  have h4:(zam (zB k z es)).all rgtB=true:=by
    rw [List.all_eq_true]
    intro w hw
    unfold zam at hw
    obtain⟨ns,hns,rfl⟩:=List.mem_map.1 hw
    exact (hrd ns hns).2.2
  have rz:zdt (zam (zB k z es))=[es.length,(totL es).toNat]:=by
    have hi:es.length+1<(zB k z es).length:=by omega
    have hx:=List.getElem?_eq_getElem hi
    rw [ziK] at hx
    unfold zdt
    rw [hLl,show es.length+2 - 1=es.length+1 by omega,zh1 hi,(hrd _ (List.getElem_mem hi)).2.1]
    exact (Option.some.inj hx).symm
  have tb:=zcV hok
  have h5:zdx (zam (zB k z es)):=by
    unfold zdx
    rw [rz,e3]
    exact⟨rfl,by show ((totL es).toNat:Int)=_; omega⟩
  have hsz:¬ 400<(bs (zaU k z es)).size:=by
    rw [zby]
    have h6:=zlJ (k:=k) (cl:=z) (es:=es) (acc:=k) (by omega) (by omega) (by omega) hok es.length
    have h7:=zcr (zdP (a:=es.length) (b:=(totL es).toNat) (by omega) (by omega))
    have h8:=congrArg List.length (zl7 (k:=k) (cl:=z) (es:=es))
    rw [List.length_append] at h8
    omega
  rw [hL]
  refine⟨?_,e1,e2,e3⟩
  rw [zh8 hsz ⟨hb,by rw [hL]; omega⟩ (by rw [hL]; exact h3) (by rw [hL]; exact h4) (by rw [hL]; exact h5),hL,e1,e2,e3]
  exact hc
end
theorem file_ld {g:ByteArray}(h:ldE g=0):chk (zaS (lnsB g)) (zbl (lnsB g)) (esOf (lnsB g))=0∧bs (zaU (zaS (lnsB g)) (zbl (lnsB g)) (esOf (lnsB g)))=g:=by
  by_cases c1:400<g.size
  · rw [zgh c1] at h; cases h
  by_cases c2:lstB g 10=true∧2≤(lnsB g).length
  case neg=>rw [ze0 c1 c2] at h; cases h
  by_cases c3:zcy (lnsB g)
  case neg=>rw [zj7 c1 c2 c3] at h; cases h
  cases c4:(lnsB g).all rgtB with
  | false=>rw [zlZ c1 c2 c3 c4] at h; cases h
  | true=>
  by_cases c5:zdx (lnsB g)
  case neg=>rw [zh3 c1 c2 c3 c4 c5] at h; cases h
  rw [zh8 c1 c2 c3 c4 c5] at h
  refine⟨h,?_⟩
  obtain⟨L,hL⟩:∃ L,L=lnsB g:=⟨_,rfl⟩
  have hLp:L.map bl=FL.prt 10 (bl (g.extract 0 (g.size - 1))):=by
    rw [hL]
    unfold lnsB
    rw [List.map_map]
    exact (List.map_congr_left (g:=id) fun w _=>zao w).trans (List.map_id _)
  rw [← hL] at c2 c3 c4 c5 ⊢
  have hne:L≠[]:=fun e=>by rw [e] at c2; exact absurd c2.2 (by decide)
  have g1:bl g=(L.map bl).flatMap fun l=>l++[10]:=by
    rw [← zgw _ (by simpa using hne),hLp,FL.zj9]
    exact zgu c2.1
  have g2:L.map bl=(L.map rowN).map linT:=by
    rw [List.map_map]
    refine List.map_congr_left fun w hw=>?_
    obtain⟨many,hr⟩:=zms c3 hw
    exact line_of hr (List.all_eq_true.1 c4 w hw)
  have at0:∀ i (hi:i<L.length),(rowN (L.getD i ⟨#[]⟩)).length=zak L.length i:=fun i hi=>zeo (c3 i hi)
  have m0:rowN (L.getD 0 ⟨#[]⟩)=[zaS L,zbl L]:=zjA (by rw [at0 0 (by omega)]; unfold zak; rw [if_pos rfl])
  have mz:rowN (L.getD (L.length - 1) ⟨#[]⟩)=[(esOf L).length,(totL (esOf L)).toNat]:=by
    have h1:(zdt L).length=2:=by
      unfold zdt
      rw [at0 _ (by omega)]
      unfold zak
      rw [if_neg (by omega),if_pos (by omega)]
    have h2:=zjA h1
    have h3:(zdt L).getD 1 0=(totL (esOf L)).toNat:=by have:=c5.2; omega
    rw [c5.1,h3] at h2
    exact h2
  have mm:(midL L).map rowN=(esOf L).map eN:=by
    unfold esOf
    rw [List.map_map]
    refine List.map_congr_left fun w hw=>?_
    obtain⟨j,hj,rfl⟩:=List.mem_iff_getElem.1 hw
    have hj2:=hj
    rw [zfU] at hj2
    have h1:=zhX (L:=L) ⟨#[]⟩ hj2
    rw [List.getD_eq_getElem?_getD,List.getElem?_eq_getElem hj] at h1
    have h1:(midL L)[j]=L.getD (j+1) ⟨#[]⟩:=h1
    rw [h1]
    refine (eN_enOf ?_).symm
    rw [at0 (j+1) (by omega)]
    unfold zak
    rw [if_neg (by omega),if_neg (by omega)]
  have g3:L.map rowN=zB (zaS L) (zbl L) (esOf L):=by
    have h1:=congrArg (List.map rowN) (zoB (L:=L) ⟨#[]⟩ c2.2)
    rw [h1,List.map_cons,List.map_append,mm,m0,List.map_singleton,mz]
    rfl
  apply zdo
  rw [zao,zin,← g3,g1,g2]
  simp only [List.flatMap_map]
end Go.Proofs.YtepaekbjoombpaaGreatDoor
end
section
namespace Go.Proofs.YtepaekbjoombpaaGreatDoor
open Go Go.Proofs Go.Eng Tab
set_option maxRecDepth 100000
set_option linter.unusedSimpArgs false
set_option linter.unusedVariables false
set_option maxHeartbeats 2000000
set_option linter.defProp false
def zg0:=(And.intro @agg24 (And.intro @inf24 @sz24))
theorem fine42 (acc cl:Int)(a:Option Addr)(n c:Nat)(es:List En)(h:Eng.Heap)(hr:Row h a (ensV es))(hn:n=es.length) :
    zb Tryz.prog 42 #[.agg #[.int .i64 acc,.int .i64 cl,.slice a n c]] h (fun v h'=>v=.bool (decide (chk acc cl es=0))∧Ext h h'):=by
  (refine zh Tryz.func42 rfl bod42 ?_; simp only [Tryz.ntmps42,Tryz.results42,za,zm,splice,Value.cells,Value.oneCell',Nat.reduceAdd,Nat.reduceSub,Nat.reduceMul,Nat.reduceLeDiff,Int.reduceEq,Nat.reduceEqDiff,zg0])
  refine zb.mono (great17 acc cl a n c _) ?_
  rintro v h1 ⟨rfl,x1⟩
  have hb1:=x1.get (zy (h:=h))
  have y1:=x1.of_push
  by_cases hg:26<(n:Int)
  · have hc:¬ chk acc cl es=0:=fun hh=>by have:=(zdS hh).2.1; omega
    simp only [hg,hc,decide_true,decide_false,Bool.not_true,za,Value.cells,Value.oneCell',Nat.reduceAdd,Nat.reduceSub,Nat.reduceMul,Nat.reduceLeDiff,Int.reduceEq,Nat.reduceEqDiff,zg0]
    exact y1
  · have hl:n≤1000000:=by omega
    simp only [hg,hb1,decide_false,Bool.not_false,za,Value.cells,Value.oneCell',Nat.reduceAdd,Nat.reduceSub,Nat.reduceMul,Nat.reduceLeDiff,Int.reduceEq,Nat.reduceEqDiff,zg0]
    refine zb.mono (check26 acc cl a n c es _ (hr.ext y1) hn hl) ?_
    rintro v h2 ⟨rfl,x2⟩
    simp only [za,Value.cells,Value.oneCell',Nat.reduceAdd,Nat.reduceSub,Nat.reduceMul,Nat.reduceLeDiff,Int.reduceEq,Nat.reduceEqDiff,zg0]
    exact y1.trans x2
end Go.Proofs.YtepaekbjoombpaaGreatDoor
end
section
namespace Go.Proofs.YtepaekbjoombpaaGreatDoor
open Go Go.Proofs Go.Eng Go.Run Tab
set_option maxRecDepth 100000
set_option linter.unusedSimpArgs false
set_option linter.unusedVariables false
set_option linter.defProp false
set_option maxHeartbeats 4000000
set_option linter.defProp false
def zR:=(And.intro (And.intro (And.intro @zeK (And.intro @agg24 @agg9)) (And.intro (And.intro @by9 @zdl) (And.intro @zes @inf24))) (And.intro (And.intro (And.intro @inf9 @sz22) (And.intro @sz24 @sz9)) (And.intro (And.intro @zero24 @Tryz.underlying9) (And.intro @Tryz.underlying22 @Tryz.underlying65))))
theorem zmi {k z:Nat}{es:List En}(hc:chk k z es=0):filV k z es=.tuple #[.string (bs (zaU k z es)),.int .i64 0]:=by rw [filV,if_pos hc,Int.toNat_natCast,Int.toNat_natCast]
theorem filed12 (acc cl:Int)(a:Option Addr)(n c:Nat)(es:List En)(s:ByteArray)(h:Eng.Heap)(F:Fx h)(hr:Row h a (ensV es))(hn:n=es.length) :
    zb Tryz.prog 12 #[.agg #[.int .i64 acc,.int .i64 cl,.slice a n c],.string s] h (fun v h'=>v=.bool true∧Ext h h'):=by
  have works:∀ {h2:Eng.Heap},Ext h h2→zb Tryz.prog 18 #[] h2 (fun v h'=>v=.bool true∧Ext h h'):=fun x=>zb.mono (works18 _) fun v h' q=>⟨q.1,x.trans q.2⟩
  (refine zh Tryz.func12 rfl bod12 ?_; simp only [Tryz.ntmps12,Tryz.results12,za,zm,splice,Value.cells,Value.oneCell',Nat.reduceAdd,Nat.reduceSub,Nat.reduceMul,Nat.reduceLeDiff,Int.reduceEq,Nat.reduceEqDiff,zR])
  have x0:Ext h (h.push (.cells #[.int .i64 acc,.int .i64 cl,.slice a n c] 24)):=(Ext.refl h).push _
  have t0:=zy (h:=h) (o:=.cells #[.int .i64 acc,.int .i64 cl,.slice a n c] 24)
  obtain⟨h0,hh0⟩:∃ h0,h0=h.push (.cells #[.int .i64 acc,.int .i64 cl,.slice a n c] 24):=⟨_,rfl⟩
  rw [← hh0] at x0 t0 ⊢
  refine zb.mono (fine42 acc cl a n c es h0 (hr.ext x0) hn) ?_
  rintro v h1 ⟨rfl,x1⟩
  have y1:=x0.trans x1
  have t1:=x1.get t0
  by_cases hc:chk acc cl es=0
  case neg=>
    have hd:decide (chk acc cl es=0)=false:=decide_eq_false hc
    simp only [hd,zn,Bool.not_false,za,Value.cells,Value.oneCell',Nat.reduceAdd,Nat.reduceSub,Nat.reduceMul,Nat.reduceLeDiff,Int.reduceEq,Nat.reduceEqDiff,zR]
    refine zb.mono (works y1) ?_
    rintro v h2 ⟨rfl,x2⟩
    simp only [za,Value.cells,Value.oneCell',Nat.reduceAdd,Nat.reduceSub,Nat.reduceMul,Nat.reduceLeDiff,Int.reduceEq,Nat.reduceEqDiff,zR]
    exact x2
  have hd:decide (chk acc cl es=0)=true:=decide_eq_true hc
  by_cases h7:700<s.size
  · have hd7:decide ((700:Int)<(s.size:Int))=true:=decide_eq_true (by omega)
    simp only [hd,hd7,zn,Bool.not_true,za,Value.cells,Value.oneCell',Nat.reduceAdd,Nat.reduceSub,Nat.reduceMul,Nat.reduceLeDiff,Int.reduceEq,Nat.reduceEqDiff,zR]
    refine zb.mono (works y1) ?_
    rintro v h2 ⟨rfl,x2⟩
    simp only [za,Value.cells,Value.oneCell',Nat.reduceAdd,Nat.reduceSub,Nat.reduceMul,Nat.reduceLeDiff,Int.reduceEq,Nat.reduceEqDiff,zR]
    exact x2
  have hd7:decide ((700:Int)<(s.size:Int))=false:=decide_eq_false (by omega)
  obtain⟨ha,hl2,hcl,hok,-⟩:=zdS hc
  obtain⟨k,rfl⟩:∃ k:Nat,acc=k:=⟨acc.toNat,by omega⟩
  obtain⟨z,rfl⟩:∃ z:Nat,cl=z:=⟨cl.toNat,by omega⟩
  simp only [hd,hd7,t1,zn,Bool.not_true,za,Value.cells,Value.oneCell',Nat.reduceAdd,Nat.reduceSub,Nat.reduceMul,Nat.reduceLeDiff,Int.reduceEq,Nat.reduceEqDiff,zR]
  refine zb.mono (file38 k z a n c es h1 (F.ext y1) (hr.ext y1) hn (by omega)) ?_
  rintro v h2 ⟨rfl,x2⟩
  have y2:=y1.trans x2
  have t2:=x2.get t1
  obtain⟨g,hg⟩:∃ g,g=bs (zaU k z es):=⟨_,rfl⟩
  obtain⟨l0,l1,l2,l3⟩:=ld_file hc
  obtain⟨gb,gL⟩:=zjf k z es
  have hrd:=zlK hc
  rw [zmi hc]
  rw [← hg] at l0 l1 l2 l3 gb gL ⊢
  have gs:g.size≤400:=by
    refine Nat.le_of_not_lt fun hh=>?_
    rw [zgh hh] at l0; cases l0
  simp only [za,Value.cells,Value.oneCell',Nat.reduceAdd,Nat.reduceSub,Nat.reduceMul,Nat.reduceLeDiff,Int.reduceEq,Nat.reduceEqDiff,zR]
  refine zb.mono (load40 g h2 (F.ext y2) (by omega)) ?_
  rintro v h3 ⟨L3,x3⟩
  have y3:=y2.trans x3
  have t3:=x3.get t2
  obtain⟨a4,n4,c4,rfl,e4,r4⟩:∃ a n c,v=.tuple #[.agg #[.int .i64 k,.int .i64 z,.slice a n c],.int .i64 0]∧n=es.length∧Row h3 a (ensV es):=by
    rcases L3 with⟨_,a,n,c,h1,h2,h3⟩ | ⟨hh,_⟩
    · rw [l1,l2] at h1
      rw [l3] at h2 h3
      exact⟨a,n,c,h1,h2,h3⟩
    · exact absurd l0 hh
  have x4:Ext h3 (h3.push (.cells #[.int .i64 k,.int .i64 z,.slice a4 n4 c4] 24)):=(Ext.refl h3).push _
  have b4:=zy (h:=h3) (o:=.cells #[.int .i64 k,.int .i64 z,.slice a4 n4 c4] 24)
  have ne4:¬ h.size=h3.size:=by
    have h1:=x0.size
    have h2:=(x1.trans (x2.trans x3)).size
    rw [hh0,Array.size_push] at h2
    omega
  simp only [t3,ne4,if_false,zn,decide_true,Bool.not_true,za,zm,splice,Value.cells,Value.oneCell',Nat.reduceAdd,Nat.reduceSub,Nat.reduceMul,Nat.reduceLeDiff,Int.reduceEq,Nat.reduceEqDiff,zR]
  refine zb.mono (same27 k z k z a4 a n4 c4 n c es es _ (r4.ext x4) (hr.ext (y3.trans x4)) e4 hn (by omega) (by omega)) ?_
  rintro v h5 ⟨rfl,x5⟩
  have y5:=(y3.trans x4).trans x5
  have t5:=x5.get (x4.get t3)
  have gd4:decide ((400:Int)<(g.size:Int))=false:=decide_eq_false (by omega)
  simp only [true_and,gd4,zn,decide_true,Bool.not_true,za,Value.cells,Value.oneCell',Nat.reduceAdd,Nat.reduceSub,Nat.reduceMul,Nat.reduceLeDiff,Int.reduceEq,Nat.reduceEqDiff,zR]
  refine zb.mono (parts47 g 10 h5 (by omega)) ?_
  rintro v h6 ⟨⟨aS,ws,cS,rfl,RS,hws⟩,x6⟩
  have y6:=y5.trans x6
  have t6:=x6.get t5
  have hwe:=znX hws gb
  have hRl:=zfD k z es
  have hll:(lnsB g).length=es.length+2:=by rw [gL]; unfold zam; rw [List.length_map,hRl]
  have hwl:ws.length=es.length+3:=by rw [hwe,List.length_append,hll]; rfl
  have cz:=zcF RS (j:=ws.length - 1) (by omega)
  have sS:=zfx RS (by omega)
  have ez:((ws.length:Int) - 1).toNat=ws.length - 1:=by omega
  have hze:ws[ws.length - 1]=⟨#[]⟩:=by
    have h1:ws[ws.length - 1]?=some ⟨#[]⟩:=by rw [hwe,List.length_append,List.length_singleton,Nat.add_sub_cancel,List.getElem?_append_right (Nat.le_refl _),Nat.sub_self]; rfl
    rw [List.getElem?_eq_getElem (by omega)] at h1
    exact Option.some.inj h1
  have dl:decide ((ws.length:Int)=(n:Int)+3)=true:=decide_eq_true (by omega)
  rw [hze] at cz
  simp only [t6,dl,cz,ez,zn,decide_true,Bool.not_true,za,Value.cells,Value.oneCell',Nat.reduceAdd,Nat.reduceSub,Nat.reduceMul,Nat.reduceLeDiff,Int.reduceEq,Nat.reduceEqDiff,zR]
  refine⟨by rw [zg]; omega,by rw [zg]; omega,⟨by omega,by omega⟩,sS,?_⟩
  have eL:((ws.length:Int) - 1)=((es.length+2:Nat):Int):=by omega
  refine zX [4,10,68,69,70,71,72,73,74,75,76,77,78,79,80,81,82,83,84,85,86,87,88] (fun e h'=>Ext h6 h'∧∃ i:Nat,i≤es.length+2∧e 10=.int .i64 i) (fun e _=>match e 10 with | .int _ q=>es.length+2 - q.toNat | _=>0) ⟨Ext.refl _,0,by omega,rfl⟩ ?_
  rintro e h7 ⟨x7,i,hi,he⟩
  by_cases hin:i<es.length+2
  · have hlt:decide ((i:Int)<((es.length+2:Nat):Int))=true:=decide_eq_true (by omega)
    have meas:es.length+2 - ((i:Int)+1).toNat<es.length+2 - (i:Int).toNat:=by omega
    have ci:=zcF (RS.ext x7) (j:=i) (by omega)
    have hiR:i<(zB k z es).length:=by omega
    have hwi:ws[i]=bs (linT ((zB k z es)[i])):=by
      have h1:ws[i]?=some (bs (linT ((zB k z es)[i]))):=by
        rw [hwe,List.getElem?_append_left (by omega),gL]
        unfold zam
        rw [List.getElem?_map,List.getElem?_eq_getElem hiR]
        rfl
      rw [List.getElem?_eq_getElem (by omega)] at h1
      exact Option.some.inj h1
    obtain⟨w,hw⟩:∃ w,w=bs (linT ((zB k z es)[i])):=⟨_,rfl⟩
    obtain⟨q1,q2,q3⟩:=hrd _ (List.getElem_mem hiR)
    rw [← hw] at hwi q1 q3
    rw [hwi] at ci
    have hE:zbx w=0:=by rw [znx q1.1,q3]; rfl
    simp only [he,eL,hlt,ci,Int.toNat_natCast,za,Value.cells,Value.oneCell',Nat.reduceAdd,Nat.reduceSub,Nat.reduceMul,Nat.reduceLeDiff,Int.reduceEq,Nat.reduceEqDiff,zR]
    refine⟨by rw [zg]; omega,⟨by omega,by omega⟩,sS,?_⟩
    refine zb.mono (check36 w h7) ?_
    rintro v h8 ⟨rfl,x8⟩
    rw [hE]
    have ci8:=zcF (RS.ext (x7.trans x8)) (j:=i) (by omega)
    rw [hwi] at ci8
    have d0:decide ((0:Int)=0)=true:=rfl
    simp only [he,ci8,d0,zn,Bool.not_true,Int.toNat_natCast,za,Value.cells,Value.oneCell',Nat.reduceAdd,Nat.reduceSub,Nat.reduceMul,Nat.reduceLeDiff,Int.reduceEq,Nat.reduceEqDiff,zR]
    refine⟨⟨by omega,by omega⟩,sS,?_⟩
    refine zb.mono (check37 w h8) ?_
    rintro v h9 ⟨rfl,rfl⟩
    rw [hE]
    simp only [he,d0,zn,Bool.not_true,za,Value.cells,Value.oneCell',Nat.reduceAdd,Nat.reduceSub,Nat.reduceMul,Nat.reduceLeDiff,Int.reduceEq,Nat.reduceEqDiff,zR]
    exact⟨by rw [zg]; omega,zD (by kernel_rfl) ⟨x7.trans x8,i+1,by omega,rfl⟩ meas⟩
  obtain rfl:i=es.length+2:=by omega
  have hlf:decide (((es.length+2:Nat):Int)<((es.length+2:Nat):Int))=false:=decide_eq_false (by omega)
  simp only [he,eL,hlf,za,Value.cells,Value.oneCell',Nat.reduceAdd,Nat.reduceSub,Nat.reduceMul,Nat.reduceLeDiff,Int.reduceEq,Nat.reduceEqDiff,zR]
  refine⟨by rw [zg]; omega,?_⟩
  have y7:=y6.trans x7
  refine zb.mono (load40 s h7 (F.ext y7) (by omega)) ?_
  rintro v h8 ⟨L8,x8⟩
  have y8:=y7.trans x8
  by_cases hs0:ldE s=0
  case neg=>
    obtain⟨a9,n9,c9,rfl,e9,r9⟩:=L8.norm
    have d9:decide (ldE s=0)=false:=decide_eq_false hs0
    simp only [d9,Bool.not_false,za,zm,splice,Value.cells,Value.oneCell',Nat.reduceAdd,Nat.reduceSub,Nat.reduceMul,Nat.reduceLeDiff,Int.reduceEq,Nat.reduceEqDiff,zR]
    refine zb.mono (works (y8.trans ((Ext.refl h8).push _))) ?_
    rintro v h9 ⟨rfl,x9⟩
    simp only [za,Value.cells,Value.oneCell',Nat.reduceAdd,Nat.reduceSub,Nat.reduceMul,Nat.reduceLeDiff,Int.reduceEq,Nat.reduceEqDiff,zR]
    exact x9
  obtain⟨k2,z2,es2,fc,ff,a9,n9,c9,rfl,e9,r9⟩:∃ (k2 z2:Nat) (es2:List En),chk k2 z2 es2=0∧bs (zaU k2 z2 es2)=s∧∃ a n c,v=.tuple #[.agg #[.int .i64 k2,.int .i64 z2,.slice a n c],.int .i64 0]∧n=es2.length∧Row h8 a (ensV es2):=by
    obtain⟨fc,ff⟩:=file_ld hs0
    rcases L8 with⟨_,a,n,c,h1,h2,h3⟩ | ⟨hh,_⟩
    · exact⟨_,_,_,fc,ff,a,n,c,h1,h2,h3⟩
    · exact absurd hs0 hh
  have fl:=(zdS fc).2.1
  have d0:decide ((0:Int)=0)=true:=rfl
  have x9:Ext h8 (h8.push (.cells #[.int .i64 k2,.int .i64 z2,.slice a9 n9 c9] 24)):=(Ext.refl h8).push _
  have b9:=zy (h:=h8) (o:=.cells #[.int .i64 k2,.int .i64 z2,.slice a9 n9 c9] 24)
  simp only [d0,Bool.not_true,za,zm,splice,Value.cells,Value.oneCell',Nat.reduceAdd,Nat.reduceSub,Nat.reduceMul,Nat.reduceLeDiff,Int.reduceEq,Nat.reduceEqDiff,zR]
  refine zb.mono (fine42 k2 z2 a9 n9 c9 es2 _ (r9.ext x9) e9) ?_
  rintro v h10 ⟨rfl,x10⟩
  have dc:decide (chk k2 z2 es2=0)=true:=decide_eq_true fc
  have b10:=x10.get b9
  have y10:=(y8.trans x9).trans x10
  simp only [dc,b10,Bool.not_true,za,Value.cells,Value.oneCell',Nat.reduceAdd,Nat.reduceSub,Nat.reduceMul,Nat.reduceLeDiff,Int.reduceEq,Nat.reduceEqDiff,zR]
  refine zb.mono (file38 k2 z2 a9 n9 c9 es2 h10 (F.ext y10) (r9.ext (x9.trans x10)) e9 (by omega)) ?_
  rintro v h11 ⟨rfl,x11⟩
  rw [zmi fc,ff]
  simp only [d0,zn,decide_true,za,Value.cells,Value.oneCell',Nat.reduceAdd,Nat.reduceSub,Nat.reduceMul,Nat.reduceLeDiff,Int.reduceEq,Nat.reduceEqDiff,zR]
  refine zb.mono (works (y10.trans x11)) ?_
  rintro v h12 ⟨rfl,x12⟩
  simp only [za,Value.cells,Value.oneCell',Nat.reduceAdd,Nat.reduceSub,Nat.reduceMul,Nat.reduceLeDiff,Int.reduceEq,Nat.reduceEqDiff,zR]
  exact x12
end Go.Proofs.YtepaekbjoombpaaGreatDoor
end
section
namespace Go.Proofs.YtepaekbjoombpaaGreatDoor
open Go Go.Proofs Go.Eng Go.Run
set_option maxRecDepth 100000
theorem zmf : "*" ++ "errors.errorString" = "*errors.errorString" := by decide
theorem row260 (u : TypeId) (h : Tryz.prog.typeName? 3 u = some "*errors.errorString") : u = 260 :=
  typeName_ptr_named (nm := "errors.errorString") (by rw [zmf]; kernel_rfl) (by kernel_rfl) (by decide) u (by rw [zmf]; exact h)
theorem fx_of {W : World} {a b c e f : String × DataW Unit} (h : laidMet Tryz.prog [a, b, ("internal/strconv.uint64pow10", Rows.laid_internal_strconv_uint64pow10), c, e, ("strconv.ErrSyntax", Rows.laid_strconv_ErrSyntax), f] W) : Fx W.heap := by
  refine⟨?_,?_⟩
  · exact Lib.tabIs_of_head (k:=.u64) (zs:=Lib.pow10Tab) (g:=1) (t:=236) (e:=205) (n:=20) (by kernel_rfl) (by kernel_rfl) (by kernel_rfl) (by kernel_rfl) (by kernel_rfl) (by kernel_rfl) h.tail.tail
  · obtain⟨x,s,hv,-,-,-⟩:=laid_sentinel (g:=2) (ti:=117) (tp:=260) (te:=262) (ts:=9) h.tail.tail.tail.tail.tail (by kernel_rfl) (by kernel_rfl) Tryz.underlying117 row260 Tryz.underlying260 Tryz.underlying262 rfl rfl Tryz.underlying9 (by kernel_rfl) (by kernel_rfl)
    exact⟨260,_,hv⟩
end Go.Proofs.YtepaekbjoombpaaGreatDoor
end
section
set_option linter.unusedVariables false
set_option linter.unusedSimpArgs false
namespace Go.Eng
open Go Go.ChangeShapes Go.WideShapes Go.ChangeAt Go.RowKit
section rowkit
variable {P:Program} {H:Type} {enc:TypeId × Value→H}
theorem same_of {W W':World}(x:Ext W.heap W'.heap){p:MemPlace}(hp:p.block<W.heap.size):W.sameAt W' p:=by
  have h:=x.old p.block hp
  cases p with
  | cell b o=>exact World.cell?_of_block (w:=W) h
  | map b=>exact h
theorem trodAll_ext (hl:laidOutB P=true){W W':World}(x:Ext W.heap W'.heap){sp:Nat→Bool}:∀ {ts:List TypeId} {vs:List Value} {ds:List (DataW H)} {ps:List MemPlace},
    (ts.all fun t=>P.readableRec t&&decide (t<P.types.size))=true→DataW.TrodAll enc P W 0 (fun _=>true) true ts vs ds ps→(∀ p∈ps,p.block<W.heap.size)→(∀ p∈ps,sp p.block=true)→DataW.TrodAll enc P W' 0 sp true ts vs ds ps
  | [],[],[],ps,_,h,_,_=>h
  | t::ts,v::vs,d::ds,ps,ht,⟨p,q,h1,h2,he⟩,hb,hs=>by
    subst he
    simp only [List.all_cons,Bool.and_eq_true,decide_eq_true_eq] at ht
    exact⟨p,q,WideElems.Trod_stays hl ht.1.1 ht.1.2 h1 (fun y hy=>same_of x (hb y (by simp [hy]))) (fun y hy=>hs y (by simp [hy])),
      trodAll_ext hl x (by simpa using ht.2) h2 (fun y hy=>hb y (by simp [hy])) (fun y hy=>hs y (by simp [hy])),rfl⟩
theorem calls_ext {f:FuncId}{args:Array Value}{W:World}{b:Bool}(hc:zb P f args W.heap (fun v h'=>v=.bool b∧Ext W.heap h')):Calls P f args W fun e W'=>e=.returned (.bool b)∧Ext W.heap W'.heap∧Rest W W':=by
  unfold zb zaR at hc
  refine Calls.mono (hc.2 W rfl) ?_
  rintro e W' ⟨v,rfl,⟨rfl,x⟩,r⟩
  exact⟨rfl,x,r⟩
end rowkit
end Go.Eng
end
section
namespace Go.Proofs.YtepaekbjoombpaaGreatDoor
open Go Go.Proofs Go.Eng Tab Go.ChangeShapes Go.WideShapes Go.ChangeAt Go.RowKit
set_option maxRecDepth 100000
set_option linter.unusedSimpArgs false
set_option linter.unusedVariables false
theorem row_of {W:World}{a:Addr}{vs:List Value}(hc:∀ i (hi:i<vs.length),W.cell? (a.add i)=some vs[i]):Row W.heap (some a) vs:=by
  by_cases hn:vs.length=0
  · left; exact List.eq_nil_of_length_eq_zero hn
  right
  have key:∀ i u,W.cell? (a.add i)=some u→(i=0→a.spot=none)∧∃ cur ct fr,W.heap[a.block]?=some (.cells cur ct fr)∧cur[a.off+i]?=some u:=by
    intro i u hu
    unfold World.cell? Addr.add at hu
    by_cases hi:i=0
    · subst hi
      simp only [if_true] at hu
      split at hu <;> simp_all
    · simp only [hi,if_false] at hu
      split at hu <;> simp_all
  obtain⟨hsp,cur,ct,fr,hb,_⟩:=key 0 _ (hc 0 (by omega))
  have hcur:∀ i (hi:i<vs.length),cur[a.off+i]?=some vs[i]:=fun i hi=>by
    obtain⟨_,cur2,ct2,fr2,hb2,hc2⟩:=key i _ (hc i hi)
    rw [hb] at hb2
    cases hb2
    exact hc2
  have hsz:a.off+vs.length≤cur.size:=by
    have:=hcur (vs.length - 1) (by omega)
    have:=(Array.getElem?_eq_some_iff.1 this).1
    omega
  obtain⟨b,off,spot⟩:=a
  replace hsp:=hsp rfl
  simp only at hsp hb hcur hsz
  subst hsp
  refine⟨b,off,cur,ct,fr,rfl,hb,hsz,?_⟩
  apply List.ext_getElem?
  intro i
  rw [List.getElem?_take,List.getElem?_drop]
  by_cases hi:i<vs.length
  · rw [if_pos hi,Array.getElem?_toList,hcur i hi,List.getElem?_eq_getElem hi]
  · rw [if_neg hi,List.getElem?_eq_none (by omega)]
theorem zf6 {α:Type}{p:Nat→α→Prop}:∀ n,(∀ i<n,∃ x,p i x)→∃ l:List α,l.length=n∧∀ i (hi:i<l.length),p i l[i]
  | 0,_=>⟨[],rfl,fun i hi=>by simp at hi⟩
  | n+1,H=>by
    obtain⟨l,hl,h⟩:=zf6 n fun i hi=>H i (by omega)
    obtain⟨x,hx⟩:=H n (by omega)
    refine⟨l++[x],by simp [hl],fun i hi=>?_⟩
    by_cases hin:i<l.length
    · rw [List.getElem_append_left hin]; exact h i hin
    · have:i=l.length:=by simp at hi; omega
      subst this
      rw [List.getElem_append_right (Nat.le_refl _)]
      simpa [hl] using hx
section opens
variable {H:Type} {enc:TypeId × Value→H} {W:World} {base b0:Nat} {r:Reach} {sp:Nat→Bool} {held:Bool} {v:Value} {d:DataW H} {ps:List MemPlace}
theorem cel3:Tryz.prog.cellsOf 3=1:=by kernel_rfl
theorem cel2:Tryz.prog.cellsOf 2=1:=by kernel_rfl
theorem cel22:Tryz.prog.cellsOf 22=1:=by kernel_rfl
theorem cel24:Tryz.prog.cellsOf 24=3:=by kernel_rfl
theorem cel26:Tryz.prog.cellsOf 26=4:=by kernel_rfl
def okEn (e:En):Prop:=(Lit.int .i64 e.d).wf=true∧(Lit.int .i64 e.f).wf=true∧(Lit.int .i64 e.t).wf=true∧(Lit.int .i64 e.a).wf=true
theorem trod_en {fuel:Nat}{cs:List Value}{x:DataW H × List MemPlace}(h:DataW.trod enc Tryz.prog W base sp held fuel 26 cs=some x):∃ e:En,cs=enV e∧okEn e:=by
  obtain⟨xs,n,rfl,rfl,hl,hxl,hf⟩:=DataW.trod_struct Tryz.underlying26 h
  rw [cel26] at hl
  obtain⟨c0,c1,c2,c3,rfl⟩:∃ c0 c1 c2 c3,cs=[c0,c1,c2,c3]:=by
    match cs,hl with
    | [c0,c1,c2,c3],_=>exact⟨_,_,_,_,rfl⟩
  obtain⟨y0,y1,y2,y3,rfl⟩:∃ y0 y1 y2 y3,xs=[y0,y1,y2,y3]:=by
    match xs,hxl with
    | [y0,y1,y2,y3],_=>exact⟨_,_,_,_,rfl⟩
  have f0:DataW.trod enc Tryz.prog W base sp held n 3 (([c0,c1,c2,c3].drop 0).take (Tryz.prog.cellsOf 3))=some y0:=hf 0 _ rfl
  have f1:DataW.trod enc Tryz.prog W base sp held n 3 (([c0,c1,c2,c3].drop 1).take (Tryz.prog.cellsOf 3))=some y1:=hf 1 _ rfl
  have f2:DataW.trod enc Tryz.prog W base sp held n 3 (([c0,c1,c2,c3].drop 2).take (Tryz.prog.cellsOf 3))=some y2:=hf 2 _ rfl
  have f3:DataW.trod enc Tryz.prog W base sp held n 2 (([c0,c1,c2,c3].drop 3).take (Tryz.prog.cellsOf 2))=some y3:=hf 3 _ rfl
  rw [cel3] at f0 f1 f2
  rw [cel2] at f3
  obtain⟨n0,e0,_,w0⟩:=DataW.trod_int Tryz.underlying3 f0
  obtain⟨n1,e1,_,w1⟩:=DataW.trod_int Tryz.underlying3 f1
  obtain⟨n2,e2,_,w2⟩:=DataW.trod_int Tryz.underlying3 f2
  obtain⟨n3,e3,_,w3⟩:=DataW.trod_int Tryz.underlying2 f3
  simp at e0 e1 e2 e3
  subst e0 e1 e2 e3
  exact⟨⟨n0,n1,n2,n3⟩,rfl,w0,w1,w2,w3⟩
theorem trod_row {fuel:Nat}{cs:List Value}{x:DataW H × List MemPlace}(h:DataW.trod enc Tryz.prog W base sp held fuel 22 cs=some x):∃ a n c es,cs=[.slice a n c]∧Row W.heap a (ensV es)∧n=es.length:=by
  rcases DataW.trod_slice Tryz.underlying22 h with⟨rfl,_⟩ | ⟨a,len,cap,elems,rest,m,rfl,rfl,rfl,hb,hl,hm,hlen,hel,_,_⟩
  · exact⟨none,0,0,[],rfl,.inl rfl,rfl⟩
  rw [cel26] at hel
  have each:∀ i,i<len→∃ e:En,∀ k (hk:k<4),W.cell? (a.add (i*4+k))=(enV e)[k]?:=by
    intro i hi
    have h1:=hel i hi
    rw [List.getElem?_eq_getElem (by omega),Option.bind_eq_some_iff] at h1
    obtain⟨cs,h2,h3⟩:=h1
    obtain⟨e,rfl,_⟩:=trod_en h3
    refine⟨e,fun k hk=>?_⟩
    have h4:=(World.cells?_some h2).2.2 k hk
    rw [← h4]
    congr 1
    unfold Addr.add
    split <;> split <;> split <;> simp_all <;> omega
  obtain⟨es,hes,hE⟩:=zf6 len each
  refine⟨some a,len,cap,es,rfl,row_of fun i hi=>?_,hes.symm⟩
  rw [zG] at hi
  have h1:=hE (i / 4) (by omega) (i % 4) (by omega)
  rw [show i / 4*4+i % 4=i by omega] at h1
  rw [h1,← zl6 es (i / 4) (i % 4) (by omega) (by omega),show i / 4*4+i % 4=i by omega,List.getElem?_eq_getElem (by rw [zG]; omega)]
theorem open_book (hval:Value.okWide Tryz.prog W r b0 24 v)(hd:DataW.Trod enc Tryz.prog W base sp held 24 v d ps):∃ ac cl a n c es,v=.agg #[.int .i64 ac,.int .i64 cl,.slice a n c]∧Row W.heap a (ensV es)∧n=es.length:=by
  obtain⟨cs,rfl,hs⟩:=okWide_struct Tryz.underlying24 hval
  obtain⟨fuel,hf⟩:=hd
  obtain⟨xs,n,rfl,_,hl,hxl,hf⟩:=DataW.trod_struct Tryz.underlying24 hf
  rw [cel24] at hl
  simp only [Value.cells] at hl hf
  obtain⟨cs⟩:=cs
  simp only at hl hf
  obtain⟨c0,c1,c2,rfl⟩:∃ c0 c1 c2,cs=[c0,c1,c2]:=by
    match cs,hl with
    | [c0,c1,c2],_=>exact⟨_,_,_,rfl⟩
  obtain⟨y0,y1,y2,rfl⟩:∃ y0 y1 y2,xs=[y0,y1,y2]:=by
    match xs,hxl with
    | [y0,y1,y2],_=>exact⟨_,_,_,rfl⟩
  have f0:DataW.trod enc Tryz.prog W base sp held n 3 (([c0,c1,c2].drop 0).take (Tryz.prog.cellsOf 3))=some y0:=hf 0 _ rfl
  have f1:DataW.trod enc Tryz.prog W base sp held n 3 (([c0,c1,c2].drop 1).take (Tryz.prog.cellsOf 3))=some y1:=hf 1 _ rfl
  have f2:DataW.trod enc Tryz.prog W base sp held n 22 (([c0,c1,c2].drop 2).take (Tryz.prog.cellsOf 22))=some y2:=hf 2 _ rfl
  rw [cel3] at f0 f1
  rw [cel22] at f2
  obtain⟨n0,e0,_,w0⟩:=DataW.trod_int Tryz.underlying3 f0
  obtain⟨n1,e1,_,w1⟩:=DataW.trod_int Tryz.underlying3 f1
  obtain⟨a,m,c,es,e2,hr,hm⟩:=trod_row f2
  simp at e0 e1 e2
  subst e0 e1 e2
  exact⟨n0,n1,a,m,c,es,rfl,hr,hm⟩
end opens
end Go.Proofs.YtepaekbjoombpaaGreatDoor
end
section
namespace Go.Eng
open Go Go.ChangeShapes Go.WideShapes Go.ChangeAt Go.RowKit
theorem open_str {P:Program}{H:Type}{enc:TypeId × Value→H}{W:World}{base b0:Nat}{r:Reach}{sp:Nat→Bool}{held:Bool}{t:TypeId}{v:Value}{d:DataW H}{ps:List MemPlace}(ht:P.underlying t=some .string)
    (hval:Value.okWide P W r b0 t v) (hd:DataW.Trod enc P W base sp held t v d ps):∃ s,v=.string s∧s.size≤9223372036854775807:=by
  obtain⟨s,rfl⟩:=okWide_string ht hval
  obtain⟨fuel,hf⟩:=hd
  obtain⟨s2,h1,_,h2⟩:=DataW.trod_string ht hf
  simp [Value.cells] at h1
  subst h1
  exact⟨s,rfl,h2⟩
end Go.Eng
namespace Go.Proofs.YtepaekbjoombpaaGreatDoor
open Go Go.Proofs Go.Eng Tab
set_option maxRecDepth 100000
set_option linter.unusedSimpArgs false
set_option linter.unusedVariables false
set_option maxHeartbeats 2000000
end Go.Proofs.YtepaekbjoombpaaGreatDoor
end
