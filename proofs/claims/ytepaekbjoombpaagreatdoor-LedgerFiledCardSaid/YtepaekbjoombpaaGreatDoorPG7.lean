/- Texts joined by pack.py: lemmas for YtepaekbjoombpaaGreatDoorFiled. No condition. -/
import Derived.Test.YtepaekbjoombpaaGreatDoorPG6
import Derived.Lib.ByteType
set_option linter.unusedSimpArgs false
set_option linter.unusedVariables false
set_option linter.defProp false
section
namespace Go.Proofs.YtepaekbjoombpaaGreatDoor
open Go Go.Proofs Go.Eng
set_option maxRecDepth 100000
set_option linter.unusedSimpArgs false
set_option linter.unusedVariables false
set_option linter.defProp false
theorem txt_d {b:UInt8}(h:isD b=true):txt b=true:=by
  have:=zbD.1 h
  unfold txt
  rw [decide_eq_true this.1,decide_eq_true this.2]
  simp
theorem txt_b:txt 32=true:=rfl
theorem jn_mem (c:UInt8):∀ (ws:List (List UInt8)) (b:UInt8),b∈FL.jn c ws→b=c∨∃ w∈ws,b∈w
  | [],b,h=>by cases h
  | [w],b,h=>.inr ⟨w,List.mem_cons_self,h⟩
  | w::v::ws,b,h=>by
    have h:b∈w++c::FL.jn c (v::ws):=h
    rcases List.mem_append.1 h with h | h
    · exact .inr ⟨w,List.mem_cons_self,h⟩
    · rcases List.mem_cons.1 h with h | h
      · exact .inl h
      · rcases jn_mem c (v::ws) b h with h | ⟨u,hu,h⟩
        · exact .inl h
        · exact .inr ⟨u,List.mem_cons_of_mem _ hu,h⟩
theorem zkq (ns:List Nat)(b:UInt8)(h:b∈txtL ns):txt b=true:=by
  rcases jn_mem 32 _ b h with rfl | ⟨w,hw,hb⟩
  · exact txt_b
  · obtain⟨n,_,rfl⟩:=List.mem_map.1 hw
    exact txt_d (zey n b hb)
theorem zlY (n:Nat):0<(dgb n).length:=List.length_pos_iff.2 (zgr n).1
theorem zj0 (c:UInt8):∀ ws:List (List UInt8),ws≠[]→(FL.jn c ws).length+1=(ws.map List.length).sum+ws.length
  | [],h=>absurd rfl h
  | [w],_=>by
    show w.length+1=_
    simp
  | w::v::ws,_=>by
    have ih:=zj0 c (v::ws) (by simp)
    show (w++c::FL.jn c (v::ws)).length+1=_
    rw [List.length_append,List.length_cons,List.map_cons,List.sum_cons,List.length_cons]
    omega
theorem zkE {ns:List Nat}(h:ns≠[]):0<(txtL ns).length:=by
  match ns,h with
  | [n],_=>exact zlY n
  | n::m::ns,_=>
    show 0<(dgb n++32::FL.jn 32 (dgb m::ns.map dgb)).length
    rw [List.length_append]
    have:=zlY n
    omega
def bs (l:List UInt8):ByteArray:=⟨l.toArray⟩
theorem zao (l:List UInt8):bl (bs l)=l:=by simp [bl,bs]
theorem bs_bl (s:ByteArray):bs (bl s)=s:=zdo (zao _)
theorem zby (l:List UInt8):(bs l).size=l.length:=by rw [← zz,zao]
theorem zfg (l m:List UInt8):bs l++bs m=bs (l++m):=zdo (by rw [zoy,zao,zao,zao])
theorem text_bs {l:List UInt8}(h0:0<l.length)(h:l.length≤12)(ht:∀ b∈l,txt b=true):text (bs l)=true:=by
  unfold text
  rw [zby,decide_eq_true ⟨h0,h⟩,Bool.true_and,List.all_eq_true]
  intro b hb
  have:b∈bl (bs l):=hb
  rw [zao] at this
  exact ht b this
theorem zgy (l:List UInt8):zbw (bs l)=bs [sgL l]:=by
  unfold zbw sgL bs
  have e:sumTo (bs l) (bs l).size=sumL l l.length:=by
    rw [zjX,zao,zby]
  unfold bs at e
  rw [e]
theorem zl0:∀ (k n:Nat),n<10 ^ (k+1)→(FL.dgt n).length≤k+1
  | 0,n,h=>by
    rw [FL.dgt,dif_pos (by simpa using h)]
    simp
  | k+1,n,h=>by
    rw [FL.dgt]
    split
    · simp
    · have ih:=zl0 k (n / 10) (by rw [Nat.div_lt_iff_lt_mul (by decide)]; rw [Nat.pow_succ] at h; exact h)
      rw [List.length_append,List.length_singleton]
      omega
theorem zch {k n:Nat}(h:n<10 ^ (k+1)):(dgb n).length≤k+1:=by rw [zmV]; exact zl0 k n h
def eN (e:En):List Nat:=[e.d.toNat,e.f.toNat,e.t.toNat,e.a.toNat]
def totL (es:List En):Int:=(es.map fun e=>e.a).sum
def zaU (k cl:Nat)(es:List En):List UInt8:=linL [k,cl]++(es.flatMap fun e=>linL (eN e))++linL [es.length,(totL es).toNat]
theorem zcV {acc:Int}:∀ {es:List En},(∀ e∈es,okE acc e)→0≤totL es∧totL es≤1000*(es.length:Int)
  | [],_=>by simp [totL]
  | e::es,h=>by
    have ih:=zcV (es:=es) fun x hx=>h x (List.mem_cons_of_mem _ hx)
    have h1:=(h e List.mem_cons_self).2.2.2
    have e1:totL (e::es)=e.a+totL es:=by unfold totL; rw [List.map_cons,List.sum_cons]
    rw [e1,List.length_cons]
    omega
theorem zdP {a b:Nat}(ha:a<100)(hb:b<1000000):(txtL [a,b]).length≤12:=by
  have h1:=zch (k:=1) (n:=a) (by omega)
  have h2:=zch (k:=5) (n:=b) (by omega)
  have h3:=zj0 32 [dgb a,dgb b] (by simp)
  have e:txtL [a,b]=FL.jn 32 [dgb a,dgb b]:=rfl
  rw [e]
  simp at h3
  omega
theorem zfj {k:Int}{e:En}(hk:k≤8)(h:okE k e):(txtL (eN e)).length≤12:=by
  obtain⟨h1,h2,h3,h4⟩:=h
  have a1:=zch (k:=1) (n:=e.d.toNat) (by omega)
  have a2:=zch (k:=0) (n:=e.f.toNat) (by omega)
  have a3:=zch (k:=0) (n:=e.t.toNat) (by omega)
  have a4:=zch (k:=3) (n:=e.a.toNat) (by omega)
  have h3:=zj0 32 [dgb e.d.toNat,dgb e.f.toNat,dgb e.t.toNat,dgb e.a.toNat] (by simp)
  have e:txtL (eN e)=FL.jn 32 [dgb e.d.toNat,dgb e.f.toNat,dgb e.t.toNat,dgb e.a.toNat]:=rfl
  rw [e]
  simp at h3
  omega
theorem zcr {ns:List Nat}(h:(txtL ns).length≤12):(linL ns).length≤15:=by
  unfold linL linT
  rw [List.length_append,List.length_append]
  simp
  omega
theorem lin_bs (ns:List Nat):bs (txtL ns)++bs [32]++bs [sgL (txtL ns)]++bs [10]=bs (linL ns):=by
  rw [zfg,zfg,zfg]
  congr 1
  unfold linL linT
  simp
theorem flat_len {k:Int}{es:List En}(hk:k≤8)(h:∀ e∈es,okE k e):(es.flatMap fun e=>linL (eN e)).length≤15*es.length:=by
  induction es with
  | nil=>simp
  | cons e es ih=>
    have h1:=zcr (zfj hk (h e List.mem_cons_self))
    have h2:=ih fun x hx=>h x (List.mem_cons_of_mem _ hx)
    rw [List.flatMap_cons,List.length_append,List.length_cons]
    omega
end Go.Proofs.YtepaekbjoombpaaGreatDoor
end
section
namespace Go.Proofs.YtepaekbjoombpaaGreatDoor
open Go Go.Proofs Go.Eng Tab
set_option maxRecDepth 100000
set_option linter.unusedSimpArgs false
set_option linter.unusedVariables false
set_option maxHeartbeats 1000000
set_option linter.defProp false
def zbe:=(And.intro (And.intro (And.intro @zeK (And.intro @agg3 @by3)) (And.intro @zfv (And.intro @zgS @zdl))) (And.intro (And.intro @zes (And.intro @inf3 @sz22)) (And.intro (And.intro @sz3 @zfO) (And.intro @Tryz.underlying22 @Tryz.underlying40))))
noncomputable instance (es:List En):Decidable (zcp es):=Classical.propDecidable _
noncomputable def chk (acc cl:Int)(es:List En):Int:=
  if ¬ (2≤acc∧acc≤8)∨20<es.length then 6
  else if ¬ (0≤cl∧cl≤30)∨¬ (∀ e∈es,okE acc e) then 3
  else if ¬ zcp es∨∃ e∈es,e.f=e.t then 16
  else 0
theorem zme (acc cl:Int)(a:Option Addr)(n c:Nat)(es:List En)(h:Eng.Heap)(hr:Row h a (ensV es))(hn:n=es.length)(hl:n≤1000000) :
    zb Tryz.prog 25 #[.agg #[.int .i64 acc,.int .i64 cl,.slice a n c]] h (fun v h'=>v=.int .i64 (chk acc cl es)∧Ext h h'):=by
  (refine zh Tryz.func25 rfl bod25 ?_; simp only [Tryz.ntmps25,Tryz.results25,za,zm,splice,Value.cells,Value.oneCell',Nat.reduceAdd,Nat.reduceSub,Nat.reduceMul,Nat.reduceLeDiff,Int.reduceEq,Nat.reduceEqDiff,zbe])
  refine zb.mono (zci 2 8 _ 1 1 [acc] _ (zcJ pn1) (by omega)) ?_
  rintro v h1 ⟨rfl,x1⟩
  have hb1:=x1.get pn0
  have y1:=x1.of_push.of_push
  by_cases ha:2≤acc∧acc≤8
  · by_cases hm:20<(n:Int)
    · have hc:chk acc cl es=6:=by unfold chk; rw [if_pos (.inr (by omega))]
      simp only [za5,ha,hb1,hm,hc,and_self,decide_true,Bool.not_true,za,Value.cells,Value.oneCell',Nat.reduceAdd,Nat.reduceSub,Nat.reduceMul,Nat.reduceLeDiff,Int.reduceEq,Nat.reduceEqDiff,zbe]
      exact y1
    · simp only [za5,ha,hb1,hm,and_self,decide_true,decide_false,Bool.not_true,za,Value.cells,Value.oneCell',Nat.reduceAdd,Nat.reduceSub,Nat.reduceMul,Nat.reduceLeDiff,Int.reduceEq,Nat.reduceEqDiff,zbe]
      refine zb.mono (zci 0 30 _ 1 1 [cl] _ (zcJ zy) (by omega)) ?_
      rintro v h2 ⟨rfl,x2⟩
      have hb2:=x2.of_push.get hb1
      have y2:=y1.trans x2.of_push
      by_cases hcl:0≤cl∧cl≤30
      · simp only [za5,hcl,hb2,and_self,decide_true,Bool.not_true,za,Value.cells,Value.oneCell',Nat.reduceAdd,Nat.reduceSub,Nat.reduceMul,Nat.reduceLeDiff,Int.reduceEq,Nat.reduceEqDiff,zbe]
        refine zb.mono (zdU a n c es 74 _ (fun e=>!decide (okE acc e)) h2 (hr.ext y2) hn hl fun e _ h' x'=>znM acc cl _ e _ h' (x'.get hb2) (by omega)) ?_
        rintro v h3 ⟨rfl,x3⟩
        have hb3:=x3.get hb2
        have y3:=y2.trans x3
        by_cases hall:∀ e∈es,okE acc e
        · have hany:(es.any fun e=>!decide (okE acc e))=false:=by
            rw [List.any_eq_false]; intro e he; simp [hall e he]
          simp only [hany,hb3,za,Value.cells,Value.oneCell',Nat.reduceAdd,Nat.reduceSub,Nat.reduceMul,Nat.reduceLeDiff,Int.reduceEq,Nat.reduceEqDiff,zbe]
          refine zb.mono (znl a n c es h3 (hr.ext y3) hn hl fun e he=>by have:=(hall e he).1; omega) ?_
          rintro v h4 ⟨b,rfl,hb,x4⟩
          have hb4:=x4.get hb3
          have y4:=y3.trans x4
          cases b with
          | false=>
            have hs:¬ zcp es:=fun hs=>by have:=hb.2 hs; cases this
            have hc:chk acc cl es=16:=by
              unfold chk
              rw [if_neg (by omega),if_neg (by rintro (h | h); exact h hcl; exact h hall),if_pos (.inl hs)]
            simp only [hb4,hc,za,Value.cells,Value.oneCell',Nat.reduceAdd,Nat.reduceSub,Nat.reduceMul,Nat.reduceLeDiff,Int.reduceEq,Nat.reduceEqDiff,zbe]
            exact y4
          | true=>
            have hs:zcp es:=hb.1 rfl
            simp only [hb4,za,Value.cells,Value.oneCell',Nat.reduceAdd,Nat.reduceSub,Nat.reduceMul,Nat.reduceLeDiff,Int.reduceEq,Nat.reduceEqDiff,zbe]
            refine zb.mono (zdU a n c es 78 #[] (fun e=>decide (e.f=e.t)) h4 (hr.ext y4) hn hl fun e _ h' x'=>znC e h') ?_
            rintro v h5 ⟨rfl,x5⟩
            have y5:=y4.trans x5
            by_cases hex:∃ e∈es,e.f=e.t
            · have hany2:(es.any fun e=>decide (e.f=e.t))=true:=by
                obtain⟨e,he,h1⟩:=hex
                rw [List.any_eq_true]; exact⟨e,he,by simp [h1]⟩
              have hc:chk acc cl es=16:=by
                unfold chk
                rw [if_neg (by omega),if_neg (by rintro (h | h); exact h hcl; exact h hall),if_pos (.inr hex)]
              simp only [hany2,hc,za,Value.cells,Value.oneCell',Nat.reduceAdd,Nat.reduceSub,Nat.reduceMul,Nat.reduceLeDiff,Int.reduceEq,Nat.reduceEqDiff,zbe]
              exact y5
            · have hany2:(es.any fun e=>decide (e.f=e.t))=false:=by
                rw [List.any_eq_false]; intro e he; simp; exact fun h1=>hex ⟨e,he,h1⟩
              have hc:chk acc cl es=0:=by
                unfold chk
                rw [if_neg (by omega),if_neg (by rintro (h | h); exact h hcl; exact h hall),if_neg (by rintro (h | h); exact h hs; exact hex h)]
              simp only [hany2,hc,za,Value.cells,Value.oneCell',Nat.reduceAdd,Nat.reduceSub,Nat.reduceMul,Nat.reduceLeDiff,Int.reduceEq,Nat.reduceEqDiff,zbe]
              exact y5
        · have hany:(es.any fun e=>!decide (okE acc e))=true:=by
            rw [List.any_eq_true]
            simp only [Classical.not_forall] at hall
            obtain⟨e,he,h1⟩:=hall
            exact⟨e,he,by simp [h1]⟩
          have hc:chk acc cl es=3:=by unfold chk; rw [if_neg (by omega),if_pos (.inr hall)]
          simp only [hany,hc,za,Value.cells,Value.oneCell',Nat.reduceAdd,Nat.reduceSub,Nat.reduceMul,Nat.reduceLeDiff,Int.reduceEq,Nat.reduceEqDiff,zbe]
          exact y3
      · have hc:chk acc cl es=3:=by unfold chk; rw [if_neg (by omega),if_pos (.inl hcl)]
        simp only [za5,hcl,hc,decide_false,Bool.not_false,za,Value.cells,Value.oneCell',Nat.reduceAdd,Nat.reduceSub,Nat.reduceMul,Nat.reduceLeDiff,Int.reduceEq,Nat.reduceEqDiff,zbe]
        exact y2
  · have hc:chk acc cl es=6:=by unfold chk; rw [if_pos (.inl ha)]
    simp only [za5,ha,hc,decide_false,Bool.not_false,za,Value.cells,Value.oneCell',Nat.reduceAdd,Nat.reduceSub,Nat.reduceMul,Nat.reduceLeDiff,Int.reduceEq,Nat.reduceEqDiff,zbe]
    exact y1
end Go.Proofs.YtepaekbjoombpaaGreatDoor
end
section
namespace Go.Proofs.YtepaekbjoombpaaGreatDoor
open Go Go.Proofs Go.Eng Tab
set_option maxRecDepth 100000
set_option linter.unusedSimpArgs false
set_option linter.unusedVariables false
set_option maxHeartbeats 1000000
set_option linter.defProp false
def za0:=(And.intro (And.intro (And.intro (And.intro @zeK @zef) (And.intro @agg3 @by26)) (And.intro (And.intro @zfv @zgS) (And.intro @zdl @ze3))) (And.intro (And.intro (And.intro @ze4 @ze2) (And.intro @zes @zcQ)) (And.intro (And.intro @inf3 @sz22) (And.intro @sz26 (And.intro @sz3 @Tryz.underlying22)))))
theorem zbU {P:Program}{R:Eng.Heap→Eng.Heap→Prop}{s:Tmp}{w:Bool}{op:Op}{ty:TypeId}{all:List Oper}{rest:List (Nat × Nat)}{k:Cont}{dst:Option Tmp}{e:Env}{d:List Deferred}{h:Eng.Heap}:gq P R undef s w op ty all rest k dst e d h=zx P R all rest k (putE e dst undef) d h:=zkM
theorem Row.addr {h:Eng.Heap}{a:Option Addr}{cs:List Value}(H:Row h a cs)(hl:0<cs.length):∃ g off,a=some ⟨g,off,none⟩:=by
  rcases H with H | ⟨g,off,cur,ct,fr,h1,_⟩
  · simp [H] at hl
  · exact⟨g,off,h1⟩
theorem rowF {h:Eng.Heap}{g off:Nat}{es:List En}(hr:Row h (some ⟨g,off,none⟩) (ensV es)){j:Nat}(hj:j<es.length)(k:Nat)(hk:k<4):zar h (some ⟨g,off+j*4+k,none⟩)=(enV es[j])[k]?:=by
  have h1:=hr.cell (j:=j*4+k) (by rw [zG]; omega)
  have h2:=zl6 es j k hj hk
  rw [List.getElem?_eq_getElem (by rw [zG]; omega)] at h2
  rw [zW] at h1
  rw [Nat.add_assoc,h1,h2]
theorem check26 (acc cl:Int)(a:Option Addr)(n c:Nat)(es:List En)(h:Eng.Heap)(hr:Row h a (ensV es))(hn:n=es.length)(hl:n≤1000000) :
    zb Tryz.prog 26 #[.agg #[.int .i64 acc,.int .i64 cl,.slice a n c]] h (fun v h'=>v=.int .i64 (chk acc cl es)∧Ext h h'):=by
  (refine zh Tryz.func26 rfl bod26 ?_; simp only [Tryz.ntmps26,Tryz.results26,za,zm,splice,Value.cells,Value.oneCell',Nat.reduceAdd,Nat.reduceSub,Nat.reduceMul,Nat.reduceLeDiff,Int.reduceEq,Nat.reduceEqDiff,za0])
  have x0:Ext h (h.push (.cells #[.int .i64 acc,.int .i64 cl,.slice a n c] 24)):=(Ext.refl h).push _
  have key:∀ {p:Prop},chk acc cl es=6→p→Value.int .i64 6=Value.int .i64 (chk acc cl es)∧p:=fun h hp=>⟨by rw [h],hp⟩
  refine⟨fun h1=>?_,fun h1=>⟨fun h2=>?_,fun h2=>⟨fun h3=>?_,fun h3=>?_⟩⟩⟩
  · exact key (by unfold chk; rw [if_pos (.inl (by omega))]) x0
  · exact key (by unfold chk; rw [if_pos (.inl (by omega))]) x0
  · exact key (by unfold chk; rw [if_pos (.inr (by omega))]) x0
  have x0b:(h.push (.cells #[.int .i64 acc,.int .i64 cl,.slice a n c] 24))[h.size]?=some (.cells #[.int .i64 acc,.int .i64 cl,.slice a n c] 24):=zy
  refine⟨fun h4=>?_,fun h4=>⟨fun h5=>?_,fun h5=>?_⟩⟩
  · exact⟨by rw [chk,if_neg (by omega),if_pos (.inl (by omega))],x0⟩
  · exact⟨by rw [chk,if_neg (by omega),if_pos (.inl (by omega))],x0⟩
  have k3:∀ {e:En},e∈es→¬ okE acc e→chk acc cl es=3:=fun he hk=>by rw [chk,if_neg (by omega),if_pos (.inr fun hh=>hk (hh _ he))]
  refine zX [2,3,27,28,29,30,31,32,33,34,35,36,37,38,39,40,41,42] (fun g h'=>∃ i:Nat,i≤n∧g 3=.int .i64 i∧(∀ e∈es.take i,okE acc e)∧Ext (h.push (.cells #[.int .i64 acc,.int .i64 cl,.slice a n c] 24)) h') (fun g _=>match g 3 with | .int _ m=>n - m.toNat | _=>0) ⟨0,by omega,rfl,by simp,Ext.refl _⟩ ?_
  rintro g h' ⟨i,hin,hg3,hok,hx⟩
  have hb:=hx.get x0b
  have hxe:=x0.trans hx
  by_cases hi:i<es.length
  · have hsm:a.isSome=true:=hr.isSome (by rw [zG]; omega)
    have hc1:=rowE (hr.ext hxe) hi
    simp only [hg3,hb,za,Value.cells,Value.oneCell',Nat.reduceAdd,Nat.reduceSub,Nat.reduceMul,Nat.reduceLeDiff,Int.reduceEq,Nat.reduceEqDiff,za0]
    refine⟨fun _=>?_,fun hge=>absurd hge (by omega)⟩
    refine zco (by kernel_rfl) zc6 [(0,0),(1,0),(2,0),(3,0),(4,0),(5,0),(6,0),(7,0),(8,0)] (by kernel_rfl) rfl (by kernel_rfl) ?_
    simp only [hg3,hb,hc1,Int.toNat_natCast,za,Value.cells,Value.oneCell',Nat.reduceAdd,Nat.reduceSub,Nat.reduceMul,Nat.reduceLeDiff,Int.reduceEq,Nat.reduceEqDiff,zC,za0]
    refine⟨by omega,hsm,?_⟩
    refine zhe _ (fun h2 x2=>zb.mono (znv acc es[i] h2) fun v h3 q=>⟨q.1,q.2⟩) ?_
    have htk:es.take (i+1)=es.take i++[es[i]]:=by rw [List.take_add_one,List.getElem?_eq_getElem hi]; rfl
    by_cases ho:okE acc es[i]
    · simp only [ho,if_true,za,Value.cells,Value.oneCell',Nat.reduceAdd,Nat.reduceSub,Nat.reduceMul,Nat.reduceLeDiff,Int.reduceEq,Nat.reduceEqDiff,zC,za0]
      refine zcE fun h2 x2=>?_
      simp only [za,Value.cells,Value.oneCell',Nat.reduceAdd,Nat.reduceSub,Nat.reduceMul,Nat.reduceLeDiff,Int.reduceEq,Nat.reduceEqDiff,zC,za0]
      refine⟨by rw [zg]; omega,zD (by kernel_rfl) ⟨i+1,by omega,rfl,fun e he=>?_,hx.trans x2⟩ ?_⟩
      · rw [htk,List.mem_append,List.mem_singleton] at he
        rcases he with he | rfl
        · exact hok e he
        · exact ho
      · show n - ((i:Int)+1).toNat<n - (i:Int).toNat
        omega
    · simp only [ho,if_false,za,Value.cells,Value.oneCell',Nat.reduceAdd,Nat.reduceSub,Nat.reduceMul,Nat.reduceLeDiff,Int.reduceEq,Nat.reduceEqDiff,zC,za0]
      refine zcE fun h2 x2=>?_
      simp only [za,Value.cells,Value.oneCell',Nat.reduceAdd,Nat.reduceSub,Nat.reduceMul,Nat.reduceLeDiff,Int.reduceEq,Nat.reduceEqDiff,zC,za0]
      exact⟨by rw [k3 (List.getElem_mem hi) ho],hxe.trans x2⟩
  · obtain rfl:i=n:=by omega
    rw [List.take_of_length_le (by omega)] at hok
    simp only [hg3,hb,za,Value.cells,Value.oneCell',Nat.reduceAdd,Nat.reduceSub,Nat.reduceMul,Nat.reduceLeDiff,Int.reduceEq,Nat.reduceEqDiff,za0]
    refine⟨fun hlt=>absurd hlt (by omega),fun _=>?_⟩
    have k16:(¬ zcp es∨∃ e∈es,e.f=e.t)→chk acc cl es=16:=fun hh=>by rw [chk,if_neg (by omega),if_neg (by rintro (h6 | h6); exact h6 ⟨by omega,by omega⟩; exact h6 hok),if_pos hh]
    refine zX [2,4,43,44,45,46,47,48,49,50,51,52,53,54,55,56,57,58,59,60,61,62,63,64,65,66,67,68,69,70,71,72,73,74,75,76,77,78,79,80,81,82] (fun g h''=>∃ j:Nat,j≤i∧g 4=.int .i64 j∧(∀ e∈es.take j,e.f≠e.t)∧(∀ k (hk:k+1<es.length),k+1<j→(es[k]'(by omega)).d≤es[k+1].d)∧Ext h' h'') (fun g _=>match g 4 with | .int _ m=>i - m.toNat | _=>0) ⟨0,by omega,rfl,by simp,fun k hk h6=>by omega,Ext.refl _⟩ ?_
    rintro g2 h2 ⟨j,hjn,hg4,hne,hso,hx2⟩
    have hb2:=hx2.get hb
    have hxe2:=hxe.trans hx2
    by_cases hj:j<es.length
    · have hsm:a.isSome=true:=hr.isSome (by rw [zG]; omega)
      obtain⟨g0,off,rfl⟩:=Row.addr hr (by rw [zG]; omega)
      have hr2:=hr.ext hxe2
      have c1:zar h2 (some ⟨g0,off+j*4+1,none⟩)=some (.int .i64 es[j].f):=rowF hr2 hj 1 (by omega)
      have c2:zar h2 (some ⟨g0,off+j*4+2,none⟩)=some (.int .i64 es[j].t):=rowF hr2 hj 2 (by omega)
      have c0:zar h2 (some ⟨g0,off+j*4,none⟩)=some (.int .i64 es[j].d):=rowF hr2 hj 0 (by omega)
      simp only [hg4,hb2,za,Value.cells,Value.oneCell',Nat.reduceAdd,Nat.reduceSub,Nat.reduceMul,Nat.reduceLeDiff,Int.reduceEq,Nat.reduceEqDiff,za0]
      refine⟨fun _=>?_,fun hge=>absurd hge (by omega)⟩
      refine zco (by kernel_rfl) zgU [(0,0),(1,0),(2,0),(3,0),(4,0),(5,0),(6,0),(7,0),(8,0),(9,0),(10,0),(11,0),(12,0),(13,0),(14,0),(15,0),(16,0),(17,0),(18,0),(19,0),(20,0),(21,0),(22,0),(23,0),(24,0),(25,0),(26,0),(27,0),(28,0),(29,0),(30,0),(31,0),(32,0)] (by kernel_rfl) rfl (by kernel_rfl) ?_
      by_cases hft:es[j].f=es[j].t
      · simp only [hg4,hb2,c1,c2,c0,hft,zbU,decide_true,zW,Nat.add_zero,Int.toNat_natCast,za,Value.cells,Value.oneCell',Nat.reduceAdd,Nat.reduceSub,Nat.reduceMul,Nat.reduceLeDiff,Int.reduceEq,Nat.reduceEqDiff,zC,za0]
        refine⟨by omega,by first | rfl | trivial,by omega,by first | rfl | trivial,?_⟩
        exact⟨by rw [k16 (.inr ⟨_,List.getElem_mem hj,hft⟩)],hxe2⟩
      · have htk:es.take (j+1)=es.take j++[es[j]]:=by rw [List.take_add_one,List.getElem?_eq_getElem hj]; rfl
        have hne':∀ e∈es.take (j+1),e.f≠e.t:=fun e he=>by
          rw [htk,List.mem_append,List.mem_singleton] at he
          rcases he with he | rfl
          · exact hne e he
          · exact hft
        rcases j with _ | m
        · have hz:¬ ((0:Nat):Int) > 0:=by omega
          have hz2:¬ (0:Int)<((0:Nat):Int):=by omega
          simp only [hg4,hb2,c1,c2,c0,hft,hz,hz2,zbU,decide_false,zW,Nat.add_zero,Int.toNat_natCast,za,Value.cells,Value.oneCell',Nat.reduceAdd,Nat.reduceSub,Nat.reduceMul,Nat.reduceLeDiff,Int.reduceEq,Nat.reduceEqDiff,zC,za0]
          refine⟨by omega,by first | rfl | trivial,by omega,by first | rfl | trivial,?_⟩
          refine⟨by rw [zg]; omega,zD (by kernel_rfl) ⟨1,by omega,rfl,hne',fun k hk h6=>by omega,hx2⟩ ?_⟩
          show i - ((0:Int)+1).toNat<i - (0:Int).toNat
          omega
        · have hz2:(0:Int)<((m+1:Nat):Int):=by omega
          have t1:(((m+1:Nat):Int) - 1).toNat=m:=by omega
          have hm:m<es.length:=by omega
          have c3:zar h2 (some ⟨g0,off+m*4,none⟩)=some (.int .i64 es[m].d):=rowF hr2 hm 0 (by omega)
          by_cases hlt:es[m+1].d<es[m].d
          · simp only [hg4,hb2,c1,c2,c0,c3,t1,hft,hz2,hlt,zbU,decide_true,decide_false,zW,Nat.add_zero,Int.toNat_natCast,za,Value.cells,Value.oneCell',Nat.reduceAdd,Nat.reduceSub,Nat.reduceMul,Nat.reduceLeDiff,Int.reduceEq,Nat.reduceEqDiff,zC,za0]
            repeat (refine And.intro (by first | omega | (rw [zg]; omega) | rfl | assumption) ?_)
            exact⟨by rw [k16 (.inl fun hs=>by have:=hs m hj; omega)],hxe2⟩
          · simp only [hg4,hb2,c1,c2,c0,c3,t1,hft,hz2,hlt,zbU,decide_true,decide_false,zW,Nat.add_zero,Int.toNat_natCast,za,Value.cells,Value.oneCell',Nat.reduceAdd,Nat.reduceSub,Nat.reduceMul,Nat.reduceLeDiff,Int.reduceEq,Nat.reduceEqDiff,zC,za0]
            repeat (refine And.intro (by first | omega | (rw [zg]; omega) | rfl | assumption) ?_)
            refine zD (by kernel_rfl) ⟨m+1+1,by omega,rfl,hne',fun k hk h6=>?_,hx2⟩ ?_
            · by_cases hkm:k=m
              · subst hkm; omega
              · exact hso k hk (by omega)
            · show i - (((m+1:Nat):Int)+1).toNat<i - ((m+1:Nat):Int).toNat
              omega
    · obtain rfl:j=i:=by omega
      rw [List.take_of_length_le (by omega)] at hne
      simp only [hg4,hb2,za,Value.cells,Value.oneCell',Nat.reduceAdd,Nat.reduceSub,Nat.reduceMul,Nat.reduceLeDiff,Int.reduceEq,Nat.reduceEqDiff,za0]
      refine⟨fun hlt=>absurd hlt (by omega),fun _=>?_⟩
      have hc:chk acc cl es=0:=by
        rw [chk,if_neg (by omega),if_neg (by rintro (h6 | h6); exact h6 ⟨by omega,by omega⟩; exact h6 hok),if_neg]
        rintro (h6 | ⟨e,he,h6⟩)
        · exact h6 fun k hk=>hso k hk (by omega)
        · exact hne e he h6
      exact⟨by rw [hc],hxe2⟩
end Go.Proofs.YtepaekbjoombpaaGreatDoor
end
section
namespace Go.Proofs.YtepaekbjoombpaaGreatDoor
open Go Go.Proofs Go.Eng Tab
set_option maxRecDepth 100000
set_option linter.unusedSimpArgs false
set_option linter.unusedVariables false
set_option maxHeartbeats 1000000
set_option linter.defProp false
def A5Fs17:=(And.intro (And.intro @zeK @zdl) (And.intro @zes (And.intro @sz22 @Tryz.underlying22)))
theorem great17 (acc cl:Int)(a:Option Addr)(n c:Nat)(h:Eng.Heap) :
    zb Tryz.prog 17 #[.agg #[.int .i64 acc,.int .i64 cl,.slice a n c]] h (fun v h'=>v=.bool (decide (26<(n:Int)))∧Ext h h'):=by
  (refine zh Tryz.func17 rfl bod17 ?_; simp only [Tryz.ntmps17,Tryz.results17,za,zm,splice,Value.cells,Value.oneCell',Nat.reduceAdd,Nat.reduceSub,Nat.reduceMul,Nat.reduceLeDiff,Int.reduceEq,Nat.reduceEqDiff,A5Fs17])
  exact (Ext.refl h).push _
end Go.Proofs.YtepaekbjoombpaaGreatDoor
end
section
namespace Go.Proofs.YtepaekbjoombpaaGreatDoor
open Go Go.Proofs Go.Eng Tab
theorem zgD {es:List En}{i:Nat}(hi:i<es.length):es.take (i+1)=es.take i++[es[i]]:=by rw [List.take_add_one,List.getElem?_eq_getElem hi]; rfl
end Go.Proofs.YtepaekbjoombpaaGreatDoor
end
section
namespace Go.Proofs.YtepaekbjoombpaaGreatDoor
open Go Go.Proofs Go.Eng Go.Run Tab
set_option maxRecDepth 100000
set_option linter.unusedSimpArgs false
set_option linter.unusedVariables false
set_option linter.defProp false
set_option maxHeartbeats 2000000
set_option linter.defProp false
def zck:=(And.intro (And.intro (And.intro @agg2 @by2) (And.intro @by9 (And.intro @inf2 @inf9))) (And.intro (And.intro @sz2 @sz9) (And.intro @zero9 (And.intro @Tryz.underlying37 @Tryz.underlying65))))
def zfV:=(And.intro (And.intro (And.intro @agg2 @zef) (And.intro @by26 (And.intro @zgR @inf2))) (And.intro (And.intro @zcQ @sz2) (And.intro @sz26 (And.intro @zgL @Tryz.underlying22))))
def nzF (l:List Nat):List Int:=l.map fun j:Nat=>(j:Int)
theorem zJ (l:List Nat):(nzF l).length=l.length:=by simp [nzF]
theorem zeC {l:List Nat}{i:Nat}:(nzF l).getD i 0=((l.getD i 0:Nat):Int):=by
  unfold nzF
  rw [List.getD_eq_getElem?_getD,List.getElem?_map,List.getD_eq_getElem?_getD]
  cases l[i]? <;> rfl
theorem app65 {h:Eng.Heap}{er:Env}{ty:TypeId}{m0:Nat}{x y:Operand}{a b:Option Addr}{len cap m c:Nat}{xs ys:List ByteArray}{K:Value→Eng.Heap→Prop}(hx:ev er x=.slice a len cap)(hy:ev er y=.slice b m c)(O:OwnV m0 h 9 1 a len cap (zaa xs))(h0h:m0≤h.size)(I:Row h b (zaa ys))(hm:m=ys.length)(hb:len+m≤1000)
    (H:∀ a' cap' h',OwnV m0 h' 9 1 a' (len+m) cap' (zaa (xs++ys))→App h h' a a'→K (.slice a' (len+m) cap') h'):ze Tryz.prog (.call ⟨.builtin .append,#[x,y],#[65,65]⟩) ty er h K:=
  zdf Tryz.underlying65 Tryz.underlying65 inf9 sz9 zero9 (by rfl) hx hy O h0h I (by rw [zaQ]; omega) (fun u hu=>by
    obtain⟨x,_,rfl⟩:=List.mem_map.1 hu
    rfl) (by omega) (by rw [by9]; omega) fun a' cap' h' O' A'=>H a' cap' h' (by
      have e:zaa xs++zaa ys=zaa (xs++ys):=by simp [zaa]
      rw [← e]; exact O') A'
def wrd (n:Nat):ByteArray:=bs (dgb n)
theorem zjm (n:Nat):(⟨(Lib.itoa (n:Int)).toArray⟩:ByteArray)=wrd n:=by rw [itoa_nat]; rfl
theorem zj8 {ns:List Nat}(h0:ns≠[])(h12:(txtL ns).length≤12):text (bs (txtL ns))=true:=text_bs (zkE h0) h12 (zkq ns)
theorem sz32:(⟨#[32]⟩:ByteArray).size=1:=rfl
theorem sz10:(⟨#[10]⟩:ByteArray).size=1:=rfl
theorem zko (a:Option Addr)(m c:Nat)(ns:List Nat)(h:Eng.Heap)(F:Fx h)(I:zM h a m (nzF ns))(h0:ns≠[])(h12:(txtL ns).length≤12)(hb:∀ n∈ns,n≤1000000)(hn:ns.length≤100) :
    zb Tryz.prog 88 #[.slice a m c] h (fun v h'=>v=.string (bs (linL ns))∧Ext h h'):=by
  have hm:=I.len
  rw [zJ] at hm
  have h0l:=List.length_pos_iff.2 h0
  (refine zh Tryz.func88 rfl bod88 ?_; simp only [Tryz.ntmps88,Tryz.results88,za,zm,splice,Value.cells,Value.oneCell',Nat.reduceAdd,Nat.reduceSub,Nat.reduceMul,Nat.reduceLeDiff,Int.reduceEq,Nat.reduceEqDiff,zck])
  refine zX [3,5,9,10,11,12,13,14,15,16,17,18] (fun e h'=>Ext h h'∧∃ i:Nat,i≤m∧e 9=.int .i64 i∧∃ aW cW,e 3=.slice aW i cW∧OwnV h.size h' 9 1 aW i cW (zaa ((ns.take i).map wrd))) (fun e _=>match e 9 with | .int _ q=>m - q.toNat | _=>0) ⟨Ext.refl _,0,by omega,rfl,none,0,rfl,OwnV.nil _ _ _ _⟩ ?_
  rintro e h1 ⟨x1,i,hi,he,aW,cW,heW,OW⟩
  by_cases him:i<m
  · have hlt:(i:Int)<(m:Int):=by omega
    have meas:m - ((i:Int)+1).toNat<m - (i:Int).toNat:=by omega
    have ci:=(I.ext x1).cell (j:=i) (by rw [zJ]; omega)
    have si:=I.isSome (by rw [zJ]; omega)
    rw [zeC] at ci
    obtain⟨n,hne⟩:∃ n,n=ns.getD i 0:=⟨_,rfl⟩
    have hnm:n∈ns:=by rw [hne,List.getD_eq_getElem?_getD,List.getElem?_eq_getElem (by omega)]; exact List.getElem_mem _
    have hnb:=hb n hnm
    rw [← hne] at ci
    simp only [he,heW,hlt,ci,decide_true,Int.toNat_natCast,za,Value.cells,Value.oneCell',Nat.reduceAdd,Nat.reduceSub,Nat.reduceMul,Nat.reduceLeDiff,Int.reduceEq,Nat.reduceEqDiff,zck]
    refine⟨by omega,si,?_⟩
    refine zb.mono (fmt118 (n:Int) h1 (F.ext x1) (by omega) (by omega)) ?_
    rintro v h2 ⟨rfl,x2⟩
    rw [zjm]
    have x3:Ext h2 (h2.push (.cells #[.string (wrd n)] 9)):=(Ext.refl h2).push _
    simp only [he,heW,za,Value.cells,Value.oneCell',Nat.reduceAdd,Nat.reduceSub,Nat.reduceMul,Nat.reduceLeDiff,Int.reduceEq,Nat.reduceEqDiff,zck]
    refine app65 (m0:=h.size) (m:=1) (ys:=[wrd n]) rfl rfl ((OW.ext x2).ext x3) ((x1.trans x2).trans x3).size (Row.block (c:=zaa [wrd n]) zy) rfl (by omega) fun a' cap' h4 O4 A4=>?_
    have et:(ns.take i).map wrd++[wrd n]=(ns.take (i+1)).map wrd:=by
      rw [List.take_add_one,List.getElem?_eq_getElem (by omega),List.map_append,hne,List.getD_eq_getElem?_getD,List.getElem?_eq_getElem (by omega)]; rfl
    rw [et] at O4
    simp only [he,za,Value.cells,Value.oneCell',Nat.reduceAdd,Nat.reduceSub,Nat.reduceMul,Nat.reduceLeDiff,Int.reduceEq,Nat.reduceEqDiff,zck]
    exact⟨by rw [zg]; omega,zD (by kernel_rfl) ⟨A4.extV ((OW.ext x2).ext x3) ((x1.trans x2).trans x3) (Nat.le_refl _),i+1,by omega,rfl,a',cap',rfl,O4⟩ meas⟩
  obtain rfl:m=i:=by omega
  rw [List.take_of_length_le (by omega)] at OW
  simp only [he,heW,show ¬ ((m:Int)<(m:Int)) by omega,decide_false,za,Value.cells,Value.oneCell',Nat.reduceAdd,Nat.reduceSub,Nat.reduceMul,Nat.reduceLeDiff,Int.reduceEq,Nat.reduceEqDiff,zck]
  have hcap:=OW.cap
  obtain⟨g,hg⟩:∃ g,aW=some ⟨g,0,none⟩:=by
    rcases OW.ok with⟨_,hz,_⟩ | ⟨g,cur,hg,_⟩
    · omega
    · exact⟨g,hg⟩
  subst hg
  have hml:(ns.map wrd).length=m:=by rw [List.length_map]; omega
  have hmd:(ns.map wrd).map (·.data.toList)=ns.map dgb:=by
    rw [List.map_map]
    exact List.map_congr_left fun n _=>zao (dgb n)
  have j1:=join119 g 0 cW (ns.map wrd) 32 h1 OW.row (by omega) (by omega) (by omega) (by
    rw [hmd]
    show (txtL ns).length≤_
    omega)
  rw [hml,hmd] at j1
  refine zb.mono j1 ?_
  rintro v h2 ⟨rfl,x2⟩
  have ht:=zj8 h0 h12
  have ev:(⟨(FL.jn 32 (ns.map dgb)).toArray⟩:ByteArray)=bs (txtL ns):=rfl
  rw [ev]
  simp only [zby,ByteArray.size_append,sz32,za,Value.cells,Value.oneCell',Nat.reduceAdd,Nat.reduceSub,Nat.reduceMul,Nat.reduceLeDiff,Int.reduceEq,Nat.reduceEqDiff,zck]
  refine⟨by omega,?_⟩
  refine zb.mono (zkH (bs (txtL ns)) h2 ht) ?_
  rintro v h3 ⟨rfl,x3⟩
  rw [zgy]
  simp only [zby,ByteArray.size_append,sz32,sz10,List.length_cons,List.length_nil,za,Value.cells,Value.oneCell',Nat.reduceAdd,Nat.reduceSub,Nat.reduceMul,Nat.reduceLeDiff,Int.reduceEq,Nat.reduceEqDiff,zck]
  exact⟨by omega,by omega,congrArg Value.string (lin_bs ns),(x1.trans x2).trans x3⟩
theorem zoj {es:List En}{i:Nat}(hi:i<es.length):totL (es.take (i+1))=totL (es.take i)+es[i].a:=by
  unfold totL
  rw [zgD hi,List.map_append,List.sum_append]
  simp
theorem zml (a:Option Addr)(n c:Nat)(es:List En)(h:Eng.Heap)(hr:Row h a (ensV es))(hn:n=es.length)(hl:n≤1000)(hb:∀ e∈es,0≤e.a∧e.a≤1000000) :
    zb Tryz.prog 89 #[.slice a n c] h (fun v h'=>v=.int .i64 (totL es)∧Ext h h'):=by
  have tb:∀ es:List En,(∀ e∈es,0≤e.a∧e.a≤1000000)→0≤totL es∧totL es≤1000000*(es.length:Int):=fun es=>by
    induction es with
    | nil=>intro _; simp [totL]
    | cons e es ih=>
      intro h
      have h1:=h e List.mem_cons_self
      have h2:=ih fun x hx=>h x (List.mem_cons_of_mem _ hx)
      have e1:totL (e::es)=e.a+totL es:=by unfold totL; rw [List.map_cons,List.sum_cons]
      rw [e1,List.length_cons]
      omega
  (refine zh Tryz.func89 rfl bod89 ?_; simp only [Tryz.ntmps89,Tryz.results89,za,zm,splice,Value.cells,Value.oneCell',Nat.reduceAdd,Nat.reduceSub,Nat.reduceMul,Nat.reduceLeDiff,Int.reduceEq,Nat.reduceEqDiff,zfV])
  refine zX [3,5,8,9,10,11,12,13,14,15,16] (fun e h'=>Ext h h'∧∃ i:Nat,i≤n∧e 8=.int .i64 i∧e 3=.int .i64 (totL (es.take i))) (fun e _=>match e 8 with | .int _ q=>n - q.toNat | _=>0) ⟨Ext.refl _,0,by omega,rfl,rfl⟩ ?_
  rintro e h1 ⟨x1,i,hi,he,he3⟩
  by_cases hin:i<n
  · have hlt:(i:Int)<(n:Int):=by omega
    have meas:n - ((i:Int)+1).toNat<n - (i:Int).toNat:=by omega
    have hie:i<es.length:=by omega
    have hce:=rowE (hr.ext x1) hie
    have sa:=hr.isSome (by rw [zG]; omega)
    have t1:=tb (es.take i) fun x hx=>hb x (List.mem_of_mem_take hx)
    have t2:=tb (es.take (i+1)) fun x hx=>hb x (List.mem_of_mem_take hx)
    rw [List.length_take] at t1 t2
    have tn:=zoj hie
    simp only [he,he3,hlt,hce,decide_true,Int.toNat_natCast,za,Value.cells,Value.oneCell',Nat.reduceAdd,Nat.reduceSub,Nat.reduceMul,Nat.reduceLeDiff,Int.reduceEq,Nat.reduceEqDiff,zfV]
    refine⟨by omega,sa,?_⟩
    refine zat zy (by simp) fun h2 g2 u2=>?_
    simp only [splice,List.take,List.drop,List.nil_append,List.append_nil,List.length_cons,List.length_nil] at g2
    have x2:Ext h1 h2:=u2.ext ((Ext.refl h1).push _) (Nat.le_refl _)
    simp only [he,he3,g2,za,Value.cells,Value.oneCell',Nat.reduceAdd,Nat.reduceSub,Nat.reduceMul,Nat.reduceLeDiff,Int.reduceEq,Nat.reduceEqDiff,zfV]
    exact⟨by rw [zg]; omega,by rw [zg]; omega,zD (by kernel_rfl) ⟨x1.trans x2,i+1,by omega,rfl,by rw [tn]; rfl⟩ meas⟩
  obtain rfl:n=i:=by omega
  rw [List.take_of_length_le (by omega)] at he3
  simp only [he,he3,show ¬ ((n:Int)<(n:Int)) by omega,decide_false,za,Value.cells,Value.oneCell',Nat.reduceAdd,Nat.reduceSub,Nat.reduceMul,Nat.reduceLeDiff,Int.reduceEq,Nat.reduceEqDiff,zfV]
  exact x1
end Go.Proofs.YtepaekbjoombpaaGreatDoor
end
section
namespace Go.Proofs.YtepaekbjoombpaaGreatDoor
open Go Go.Proofs Go.Eng Tab
theorem zdS {acc cl:Int}{es:List En}(H:chk acc cl es=0):(2≤acc∧acc≤8)∧es.length≤20∧(0≤cl∧cl≤30)∧(∀ e∈es,okE acc e)∧zcp es∧∀ e∈es,e.f≠e.t:=by
  unfold chk at H
  split at H
  · omega
  split at H
  · omega
  split at H
  · omega
  rename_i h1 h2 h3
  rw [not_or] at h1 h2 h3
  refine⟨Classical.not_not.1 h1.1,by omega,Classical.not_not.1 h2.1,Classical.not_not.1 h2.2,Classical.not_not.1 h3.1,fun e he hh=>h3.2 ⟨e,he,hh⟩⟩
end Go.Proofs.YtepaekbjoombpaaGreatDoor
end
section
namespace Go.Proofs.YtepaekbjoombpaaGreatDoor
open Go Go.Proofs Go.Eng Go.Run Tab
set_option maxRecDepth 100000
set_option linter.unusedSimpArgs false
set_option linter.unusedVariables false
set_option linter.defProp false
set_option maxHeartbeats 2000000
set_option linter.defProp false
def zZ:=(And.intro (And.intro (And.intro (And.intro @agg2 (And.intro @zeK @agg24)) (And.intro (And.intro @zef @agg3) (And.intro @by2 @by26))) (And.intro (And.intro @zfv (And.intro @zgS @zdl)) (And.intro (And.intro @ze3 @ze4) (And.intro @ze2 @zgR)))) (And.intro (And.intro (And.intro @inf2 (And.intro @zes @inf24)) (And.intro (And.intro @zcQ @inf3) (And.intro @sz2 @sz22))) (And.intro (And.intro (And.intro @sz24 @sz26) (And.intro @sz3 @zero115)) (And.intro (And.intro @zero2 @zgL) (And.intro @Tryz.underlying22 @Tryz.underlying37)))))
theorem BldS.ext {B b:Nat}{l:List UInt8}{h h':Eng.Heap}(H:BldS B b l h)(x:Ext h h'):BldS B b l h':=fun w' hw'=>by
  have key:∀ p,Lib.BuilderAt 115 5 B b p (Lib.byteCells l) { w' with heap:=h }→Lib.BuilderAt 115 5 B b p (Lib.byteCells l) w':=by
    rintro p ⟨h1,v,h2,⟨h3,h4⟩,h5⟩
    refine⟨h1,v,by rw [hw']; exact x.get h2,⟨h3,?_⟩,h5⟩
    rcases h4 with h4 | ⟨g,cap,cur,e1,e2,e3,e4⟩
    · exact .inl h4
    · exact .inr ⟨g,cap,cur,e1,e2,by rw [hw']; exact x.get e3,e4⟩
  exact (H { w' with heap:=h } rfl).imp (key _) (key _)
theorem BldS.lt {B b:Nat}{l:List UInt8}{h:Eng.Heap}(H:BldS B b l h):b<h.size:=by
  rcases H { (default:World) with heap:=h } rfl with h1 | h1 <;> exact h1.lt
def fil (k cl:Nat)(es:List En)(i:Nat):List UInt8:=linL [k,cl]++(es.take i).flatMap fun e=>linL (eN e)
theorem fil_zero (k cl:Nat)(es:List En):fil k cl es 0=linL [k,cl]:=by simp [fil]
theorem fil_next {k cl:Nat}{es:List En}{i:Nat}(hi:i<es.length):fil k cl es (i+1)=fil k cl es i++linL (eN es[i]):=by
  unfold fil
  rw [zgD hi,List.flatMap_append,List.append_assoc]
  simp
theorem zlJ {k cl:Nat}{es:List En}{acc:Int}(hk:k≤8)(hc:cl≤30)(ha:acc≤8)(ho:∀ e∈es,okE acc e)(i:Nat):(fil k cl es i).length≤15+15*es.length:=by
  have h1:=zcr (zdP (a:=k) (b:=cl) (by omega) (by omega))
  have h2:=flat_len ha (es:=es.take i) fun e he=>ho e (List.mem_of_mem_take he)
  rw [List.length_take] at h2
  unfold fil
  rw [List.length_append]
  omega
theorem zl7 {k cl:Nat}{es:List En}:fil k cl es es.length++linL [es.length,(totL es).toNat]=zaU k cl es:=by
  unfold fil zaU
  rw [List.take_of_length_le (Nat.le_refl _)]
theorem nz_eN {acc:Int}{e:En}(h:okE acc e):nzF (eN e)=[e.d,e.f,e.t,e.a]:=by
  obtain⟨h1,h2,h3,h4⟩:=h
  simp only [nzF,eN,List.map_cons,List.map_nil]
  congr 1
  · omega
  congr 1
  · omega
  congr 1
  · omega
  congr 1
  omega
theorem eN_bound {acc:Int}{e:En}(ha:acc≤8)(h:okE acc e):∀ n∈eN e,n≤1000000:=by
  obtain⟨h1,h2,h3,h4⟩:=h
  intro n hn
  simp only [eN,List.mem_cons,List.not_mem_nil,or_false] at hn
  omega
noncomputable def filV (acc cl:Int)(es:List En):Value:=if chk acc cl es=0 then .tuple #[.string (bs (zaU acc.toNat cl.toNat es)),.int .i64 0] else .tuple #[.string ⟨#[]⟩,.int .i64 (chk acc cl es)]
theorem ziu {a b:Nat}(ha:a≤1000000)(hb:b≤1000000):∀ n∈[a,b],n≤1000000:=fun n hn=>by
  simp only [List.mem_cons,List.not_mem_nil,or_false] at hn
  omega
theorem file38 (acc cl:Int)(a:Option Addr)(n c:Nat)(es:List En)(h:Eng.Heap)(F:Fx h)(hr:Row h a (ensV es))(hn:n=es.length)(hl:n≤1000) :
    zb Tryz.prog 38 #[.agg #[.int .i64 acc,.int .i64 cl,.slice a n c]] h (fun v h'=>v=filV acc cl es∧Ext h h'):=by
  (refine zh Tryz.func38 rfl bod38 ?_; simp only [Tryz.ntmps38,Tryz.results38,za,zm,splice,Value.cells,Value.oneCell',Nat.reduceAdd,Nat.reduceSub,Nat.reduceMul,Nat.reduceLeDiff,Int.reduceEq,Nat.reduceEqDiff,zZ])
  have x0:Ext h (h.push (.cells #[.int .i64 acc,.int .i64 cl,.slice a n c] 24)):=(Ext.refl h).push _
  refine zb.mono (zme acc cl a n c es _ (hr.ext x0) hn (by omega)) ?_
  rintro v h1 ⟨rfl,x1⟩
  have y1:=x0.trans x1
  have t1:=x1.get (zy (h:=h) (o:=.cells #[.int .i64 acc,.int .i64 cl,.slice a n c] 24))
  by_cases hc:chk acc cl es=0
  case neg=>
    have e0:filV acc cl es=.tuple #[.string ⟨#[]⟩,.int .i64 (chk acc cl es)]:=by rw [filV,if_neg hc]
    simp only [hc,decide_false,Bool.not_false,za,Value.cells,Value.oneCell',Nat.reduceAdd,Nat.reduceSub,Nat.reduceMul,Nat.reduceLeDiff,Int.reduceEq,Nat.reduceEqDiff,zZ]
    exact⟨e0.symm,y1⟩
  obtain⟨ha,hl2,hcl,hok,-⟩:=zdS hc
  obtain⟨k,rfl⟩:∃ k:Nat,acc=k:=⟨acc.toNat,by omega⟩
  obtain⟨z,rfl⟩:∃ z:Nat,cl=z:=⟨cl.toNat,by omega⟩
  have hk8:k≤8:=by omega
  have hz30:z≤30:=by omega
  have hka:(k:Int)≤8:=by omega
  have tb:=zcV hok
  have e0:filV k z es=.tuple #[.string (bs (zaU k z es)),.int .i64 0]:=by rw [filV,if_pos hc,Int.toNat_natCast,Int.toNat_natCast]
  have xb:Ext h1 (h1.push (.cells #[.pointer none,.slice none 0 0] 115)):=(Ext.refl _).push _
  have B0:=BldS.fresh h1
  obtain⟨hb,hhb⟩:∃ hb,hb=h1.push (.cells #[.pointer none,.slice none 0 0] 115):=⟨_,rfl⟩
  have hne:¬ h.size=h1.size:=by
    have:=x1.size
    rw [Array.size_push] at this
    omega
  simp only [hc,hne,t1,decide_true,Bool.not_true,if_false,za,Value.cells,Value.oneCell',Nat.reduceAdd,Nat.reduceSub,Nat.reduceMul,Nat.reduceLeDiff,Int.reduceEq,Nat.reduceEqDiff,zZ]
  rw [← hhb] at xb B0 ⊢
  simp only [za,zm,splice,Value.cells,Value.oneCell',Nat.reduceAdd,Nat.reduceSub,Nat.reduceMul,Nat.reduceLeDiff,Int.reduceEq,Nat.reduceEqDiff,zZ]
  have xc:Ext hb (hb.push (.cells #[.int .i64 k,.int .i64 z] 2)):=(Ext.refl _).push _
  have len2:=zdP (a:=k) (b:=z) (by omega) (by omega)
  refine zb.mono (zko _ 2 2 [k,z] _ (F.ext (y1.trans (xb.trans xc))) (zfz zy) (by simp) len2 (ziu (by omega) (by omega)) (by simp)) ?_
  rintro v h2 ⟨rfl,x2⟩
  have x2':=xc.trans x2
  simp only [za,Value.cells,Value.oneCell',Nat.reduceAdd,Nat.reduceSub,Nat.reduceMul,Nat.reduceLeDiff,Int.reduceEq,Nat.reduceEqDiff,zZ]
  have l15:=zcr len2
  refine zb.mono (wr87 h1.size h1.size [] _ h2 (B0.ext x2') (by rw [zby]; simp; omega) (by have:=(xb.trans x2').size; omega)) ?_
  rintro v h3 ⟨rfl,B3,E3⟩
  have x3:Ext h1 h3:=E3.ext (xb.trans x2') (Nat.le_refl _)
  have t3:=x3.get t1
  simp only [t3,za,Value.cells,Value.oneCell',Nat.reduceAdd,Nat.reduceSub,Nat.reduceMul,Nat.reduceLeDiff,Int.reduceEq,Nat.reduceEqDiff,zZ]
  have B3':BldS h1.size h1.size (fil k z es 0) h3:=by
    rw [fil_zero]
    have e1:(bs (linL [k,z])).data.toList=linL [k,z]:=zao _
    rw [e1] at B3
    exact B3
  refine zX [7,23,24,25,26,27,28,29,30,31,32,33,34,35,36,37,38] (fun e h'=>Ext h1 h'∧∃ i:Nat,i≤n∧e 23=.int .i64 i∧BldS h1.size h1.size (fil k z es i) h') (fun e _=>match e 23 with | .int _ q=>n - q.toNat | _=>0) ⟨x3,0,by omega,rfl,B3'⟩ ?_
  rintro e h4 ⟨x4,i,hi,he,B4⟩
  have r4:=hr.ext (y1.trans x4)
  have fl:=zlJ (k:=k) (cl:=z) hk8 hz30 hka hok i
  by_cases hin:i<n
  · have hlt:(i:Int)<(n:Int):=by omega
    have meas:n - ((i:Int)+1).toNat<n - (i:Int).toNat:=by omega
    have hie:i<es.length:=by omega
    have hce:=rowE r4 hie
    have sa:=hr.isSome (by rw [zG]; omega)
    have oki:=hok es[i] (List.getElem_mem hie)
    simp only [he,hlt,hce,decide_true,Int.toNat_natCast,za,Value.cells,Value.oneCell',Nat.reduceAdd,Nat.reduceSub,Nat.reduceMul,Nat.reduceLeDiff,Int.reduceEq,Nat.reduceEqDiff,zZ]
    refine⟨by omega,sa,?_⟩
    refine zat zy (by simp) fun h5 g5 u5=>?_
    simp only [splice,List.take,List.drop,List.nil_append,List.append_nil,List.length_cons,List.length_nil] at g5
    have x5:Ext h4 h5:=u5.ext ((Ext.refl h4).push _) (Nat.le_refl _)
    simp only [he,g5,za,zm,splice,Value.cells,Value.oneCell',Nat.reduceAdd,Nat.reduceSub,Nat.reduceMul,Nat.reduceLeDiff,Int.reduceEq,Nat.reduceEqDiff,zZ]
    have xd:Ext h5 (h5.push (.cells #[.int .i64 es[i].d,.int .i64 es[i].f,.int .i64 es[i].t,.int .i64 es[i].a] 2)):=(Ext.refl _).push _
    have I4:zM (h5.push (.cells #[.int .i64 es[i].d,.int .i64 es[i].f,.int .i64 es[i].t,.int .i64 es[i].a] 2)) (some ⟨h5.size,0,none⟩) 4 (nzF (eN es[i])):=by
      rw [nz_eN oki]
      exact zM.block (xs:=[es[i].d,es[i].f,es[i].t,es[i].a]) zy
    have len4:=zfj hka oki
    refine zb.mono (zko _ 4 4 (eN es[i]) _ (F.ext ((y1.trans x4).trans (x5.trans xd))) I4 (by simp [eN]) len4 (eN_bound hka oki) (by simp [eN])) ?_
    rintro v h6 ⟨rfl,x6⟩
    have x6':=x5.trans (xd.trans x6)
    have l15e:=zcr len4
    simp only [za,Value.cells,Value.oneCell',Nat.reduceAdd,Nat.reduceSub,Nat.reduceMul,Nat.reduceLeDiff,Int.reduceEq,Nat.reduceEqDiff,zZ]
    refine zb.mono (wr87 h1.size h1.size _ _ h6 (B4.ext x6') (by rw [zby]; omega) (by have:=(x4.trans x6').size; omega)) ?_
    rintro v h7 ⟨rfl,B7,E7⟩
    have x7:Ext h1 h7:=E7.ext (x4.trans x6') (Nat.le_refl _)
    simp only [he,za,Value.cells,Value.oneCell',Nat.reduceAdd,Nat.reduceSub,Nat.reduceMul,Nat.reduceLeDiff,Int.reduceEq,Nat.reduceEqDiff,zZ]
    have e1:(bs (linL (eN es[i]))).data.toList=linL (eN es[i]):=zao _
    rw [e1,← fil_next hie] at B7
    exact⟨by rw [zg]; omega,zD (by kernel_rfl) ⟨x7,i+1,by omega,rfl,B7⟩ meas⟩
  obtain rfl:n=i:=by omega
  have t4:=x4.get t1
  simp only [he,show ¬ ((n:Int)<(n:Int)) by omega,decide_false,za,Value.cells,Value.oneCell',Nat.reduceAdd,Nat.reduceSub,Nat.reduceMul,Nat.reduceLeDiff,Int.reduceEq,Nat.reduceEqDiff,zZ]
  refine zco (by kernel_rfl) zc6 [(0,0),(1,0),(2,0),(3,0),(4,0),(5,0),(6,1),(7,1),(8,1)] (by kernel_rfl) rfl (by kernel_rfl) ?_
  simp only [t4,za,Value.cells,Value.oneCell',Nat.reduceAdd,Nat.reduceSub,Nat.reduceMul,Nat.reduceLeDiff,Int.reduceEq,Nat.reduceEqDiff,zC,zZ]
  refine zhe _ (fun h' x'=>zb.mono (zml a n c es h' (r4.ext x') hn hl fun e he=>by have:=(hok e he).2.2.2; omega) fun v h'' q=>⟨q.1,q.2⟩) ?_
  simp only [za,Value.cells,Value.oneCell',Nat.reduceAdd,Nat.reduceSub,Nat.reduceMul,Nat.reduceLeDiff,Int.reduceEq,Nat.reduceEqDiff,zC,zZ]
  have tT:∃ m:Nat,totL es=m∧m≤1000000:=⟨(totL es).toNat,by omega,by omega⟩
  obtain⟨m,hm,hmb⟩:=tT
  have fa:=zl7 (k:=k) (cl:=z) (es:=es)
  rw [hm,Int.toNat_natCast,← hn] at fa
  rw [hm]
  refine zcg rfl rfl fun h5 x5=>?_
  simp only [za,zm,splice,Value.cells,Value.oneCell',Nat.reduceAdd,Nat.reduceSub,Nat.reduceMul,Nat.reduceLeDiff,Int.reduceEq,Nat.reduceEqDiff,zC,zZ]
  refine zcg rfl rfl fun h6 x6=>?_
  simp only [za,Value.cells,Value.oneCell',Nat.reduceAdd,Nat.reduceSub,Nat.reduceMul,Nat.reduceLeDiff,Int.reduceEq,Nat.reduceEqDiff,zC,zZ]
  have I2:=zfz (h:=h6) (x6.get (zy (h:=h5)))
  have x46:Ext h4 h6:=(x5.trans ((Ext.refl h5).push _)).trans x6
  have len3:=zdP (a:=n) (b:=m) (by omega) (by omega)
  have l15e:=zcr len3
  refine zb.mono (zko _ 2 2 [n,m] _ (F.ext ((y1.trans x4).trans x46)) I2 (by simp) len3 (ziu (by omega) (by omega)) (by simp)) ?_
  rintro v h7 ⟨rfl,x7⟩
  simp only [za,Value.cells,Value.oneCell',Nat.reduceAdd,Nat.reduceSub,Nat.reduceMul,Nat.reduceLeDiff,Int.reduceEq,Nat.reduceEqDiff,zC,zZ]
  refine zcg rfl rfl fun h8 x8=>?_
  have x48:=(x46.trans x7).trans x8
  rw [← hn] at fl
  have hBs:h1.size≤h8.size:=Nat.le_trans x4.size x48.size
  simp only [za,Value.cells,Value.oneCell',Nat.reduceAdd,Nat.reduceSub,Nat.reduceMul,Nat.reduceLeDiff,Int.reduceEq,Nat.reduceEqDiff,zC,zZ]
  refine zb.mono (wr87 h1.size h1.size _ _ h8 (B4.ext x48) (by rw [zby]; omega) hBs) ?_
  rintro v h9 ⟨rfl,B9,E9⟩
  have x9:Ext h1 h9:=E9.ext (x4.trans x48) (Nat.le_refl _)
  have e1:(bs (linL [n,m])).data.toList=linL [n,m]:=zao _
  rw [e1,hn,← hn,fa] at B9
  simp only [za,Value.cells,Value.oneCell',Nat.reduceAdd,Nat.reduceSub,Nat.reduceMul,Nat.reduceLeDiff,Int.reduceEq,Nat.reduceEqDiff,zC,zZ]
  refine zcE fun h10 x10=>?_
  simp only [za,Value.cells,Value.oneCell',Nat.reduceAdd,Nat.reduceSub,Nat.reduceMul,Nat.reduceLeDiff,Int.reduceEq,Nat.reduceEqDiff,zZ]
  refine zb.mono (str90 h1.size h1.size _ h10 (B9.ext x10) (by have:=x9.size; have:=x10.size; omega)) ?_
  rintro v h11 ⟨rfl,E11⟩
  have x11:Ext h1 h11:=E11.ext (x9.trans x10) (Nat.le_refl _)
  simp only [za,Value.cells,Value.oneCell',Nat.reduceAdd,Nat.reduceSub,Nat.reduceMul,Nat.reduceLeDiff,Int.reduceEq,Nat.reduceEqDiff,zZ]
  exact⟨e0.symm,y1.trans x11⟩
end Go.Proofs.YtepaekbjoombpaaGreatDoor
end
section
namespace Go.Proofs.YtepaekbjoombpaaGreatDoor
open Go Go.Proofs Go.Eng Go.Run Tab
set_option maxRecDepth 100000
set_option linter.unusedSimpArgs false
set_option linter.unusedVariables false
set_option linter.defProp false
set_option maxHeartbeats 2000000
set_option linter.defProp false
def zc8:=(And.intro (And.intro @by9 (And.intro @inf9 @sz9)) (And.intro @zero9 (And.intro @Tryz.underlying9 @Tryz.underlying65)))
def PrtP (s:ByteArray)(c:UInt8)(v:Value)(h':Eng.Heap):Prop:=∃ a ws cp,v=.slice a ws.length cp∧Row h' a (zaa ws)∧ws.map bl=FL.prt c (bl s)
theorem prt_cut (c:UInt8)(l:List UInt8){b i:Nat}(hb:b≤i)(hi:i<l.length)(hc:l.getD i 0=c)(hno:∀ j,b≤j→j<i→l.getD j 0≠c):FL.prt c (l.drop b)=(l.take i).drop b::FL.prt c (l.drop (i+1)):=by
  have e1:l.drop b=(l.take i).drop b++c::l.drop (i+1):=by
    have h1:l=l.take i++l.drop i:=(List.take_append_drop i l).symm
    have h2:l.drop i=c::l.drop (i+1):=by
      rw [List.drop_eq_getElem_cons hi,← hc,List.getD_eq_getElem?_getD,List.getElem?_eq_getElem hi]; rfl
    conv=>lhs; rw [h1,h2]
    rw [List.drop_append_of_le_length (by rw [List.length_take]; omega)]
  rw [e1]
  refine FL.zid c _ _ fun hm=>?_
  obtain⟨j,hj,he⟩:=List.mem_iff_getElem.1 hm
  have hj2:=hj
  rw [List.length_drop,List.length_take] at hj2
  refine hno (b+j) (by omega) (by omega) ?_
  rw [List.getElem_drop,List.getElem_take] at he
  rw [List.getD_eq_getElem?_getD,List.getElem?_eq_getElem (by omega)]
  exact he
theorem prt_end (c:UInt8)(l:List UInt8){b:Nat}(hno:∀ j,b≤j→j<l.length→l.getD j 0≠c):FL.prt c (l.drop b)=[l.drop b]:=by
  refine FL.zet c _ fun hm=>?_
  obtain⟨j,hj,he⟩:=List.mem_iff_getElem.1 hm
  have hj2:=hj
  rw [List.length_drop] at hj2
  refine hno (b+j) (by omega) (by omega) ?_
  rw [List.getElem_drop] at he
  rw [List.getD_eq_getElem?_getD,List.getElem?_eq_getElem (by omega)]
  exact he
theorem parts47 (s:ByteArray)(c:UInt8)(h:Eng.Heap)(hs:s.size≤900) :
    zb Tryz.prog 47 #[.string s,.int .u8 c.toNat] h (fun v h'=>PrtP s c v h'∧Ext h h'):=by
  (refine zh Tryz.func47 rfl bod47 ?_; simp only [Tryz.ntmps47,Tryz.results47,za,zm,splice,Value.cells,Value.oneCell',Nat.reduceAdd,Nat.reduceSub,Nat.reduceMul,Nat.reduceLeDiff,Int.reduceEq,Nat.reduceEqDiff,zc8])
  refine zX [5,6,7,8,9,10,11,12,13,14,15,16,17,18,19,20,21,22,23,24,25,26,27] (fun e h'=>Ext h h'∧∃ (i b:Nat) (done:List ByteArray),b≤i∧i≤s.size∧done.length≤i∧e 7=.int .i64 i∧e 6=.int .i64 b∧(∃ aW cW,e 5=.slice aW done.length cW∧OwnV h.size h' 9 1 aW done.length cW (zaa done))∧FL.prt c (bl s)=done.map bl++FL.prt c ((bl s).drop b)∧∀ j,b≤j→j<i→(bl s).getD j 0≠c) (fun e _=>match e 7 with | .int _ q=>s.size - q.toNat | _=>0) ⟨Ext.refl _,0,0,[],by omega,by omega,Nat.le_refl _,rfl,rfl,⟨none,0,rfl,OwnV.nil _ _ _ _⟩,by simp,fun j h1 h2=>by omega⟩ ?_
  rintro e h1 ⟨x1,i,b,done,hbi,hi,hdl,he7,he6,⟨aW,cW,he5,OW⟩,hpr,hno⟩
  by_cases his:i<s.size
  · have hlt:(i:Int)<(s.size:Int):=by omega
    have meas:s.size - ((i:Int)+1).toNat<s.size - (i:Int).toNat:=by omega
    have hil:i<(bl s).length:=by rw [zz]; exact his
    have hgd:=zbs s i
    by_cases hc:(bl s).getD i 0=c
    · have hci:((s.data.getD i 0).toNat:Int)=(c.toNat:Int):=by rw [hgd,hc]
      simp only [he7,he6,he5,hlt,hci,zn,decide_true,Int.toNat_natCast,za,Value.cells,Value.oneCell',Nat.reduceAdd,Nat.reduceSub,Nat.reduceMul,Nat.reduceLeDiff,Int.reduceEq,Nat.reduceEqDiff,zc8]
      refine⟨by omega,by omega,by omega,by omega,?_⟩
      have x2:Ext h1 (h1.push (.cells #[.string (s.extract b i)] 9)):=(Ext.refl h1).push _
      refine app65 (m0:=h.size) (m:=1) (ys:=[s.extract b i]) rfl rfl (OW.ext x2) (x1.trans x2).size (Row.block (c:=zaa [s.extract b i]) zy) rfl (by omega) fun a' cap' h4 O4 A4=>?_
      have hp:=prt_cut c (bl s) hbi hil hc hno
      have hbx:=zew s b i
      simp only [he7,Int.toNat_natCast,za,Value.cells,Value.oneCell',Nat.reduceAdd,Nat.reduceSub,Nat.reduceMul,Nat.reduceLeDiff,Int.reduceEq,Nat.reduceEqDiff,zc8]
      refine⟨by rw [zg]; omega,by rw [zg]; omega,zD (by kernel_rfl) ⟨A4.extV (OW.ext x2) (x1.trans x2) (Nat.le_refl _),i+1,i+1,done++[s.extract b i],Nat.le_refl _,by omega,by rw [List.length_append,List.length_singleton]; omega,rfl,rfl,⟨a',cap',by rw [List.length_append]; rfl,by rw [List.length_append]; exact O4⟩,?_,fun j h1 h2=>by omega⟩ meas⟩
      rw [hpr,hp,List.map_append,← hbx]
      simp
    · have hci:¬ ((s.data.getD i 0).toNat:Int)=(c.toNat:Int):=by
        rw [hgd]
        intro hh
        exact hc (UInt8.toNat_inj.1 (by omega))
      simp only [he7,he6,he5,hlt,hci,zn,decide_true,decide_false,Int.toNat_natCast,za,Value.cells,Value.oneCell',Nat.reduceAdd,Nat.reduceSub,Nat.reduceMul,Nat.reduceLeDiff,Int.reduceEq,Nat.reduceEqDiff,zc8]
      refine⟨by omega,by rw [zg]; omega,zD (by kernel_rfl) ⟨x1,i+1,b,done,by omega,by omega,by omega,rfl,rfl,⟨aW,cW,rfl,OW⟩,hpr,fun j h1 h2=>?_⟩ meas⟩
      by_cases hji:j=i
      · subst hji; exact hc
      · exact hno j h1 (by omega)
  obtain rfl:i=s.size:=by omega
  simp only [he7,he6,he5,show ¬ ((s.size:Int)<(s.size:Int)) by omega,zn,decide_false,Int.toNat_natCast,za,Value.cells,Value.oneCell',Nat.reduceAdd,Nat.reduceSub,Nat.reduceMul,Nat.reduceLeDiff,Int.reduceEq,Nat.reduceEqDiff,zc8]
  refine⟨by omega,by omega,by omega,?_⟩
  have x2:Ext h1 (h1.push (.cells #[.string (s.extract b s.size)] 9)):=(Ext.refl h1).push _
  refine app65 (m0:=h.size) (m:=1) (ys:=[s.extract b s.size]) rfl rfl (OW.ext x2) (x1.trans x2).size (Row.block (c:=zaa [s.extract b s.size]) zy) rfl (by omega) fun a' cap' h4 O4 A4=>?_
  simp only [za,Value.cells,Value.oneCell',Nat.reduceAdd,Nat.reduceSub,Nat.reduceMul,Nat.reduceLeDiff,Int.reduceEq,Nat.reduceEqDiff,zc8]
  refine⟨⟨a',done++[s.extract b s.size],cap',by rw [List.length_append]; rfl,O4.row,?_⟩,A4.extV (OW.ext x2) (x1.trans x2) (Nat.le_refl _)⟩
  have hp:=prt_end c (bl s) (b:=b) (fun j h1 h2=>hno j h1 (by rw [zz] at h2; omega))
  rw [hpr,hp,List.map_append]
  congr 1
  show [bl (s.extract b s.size)]=_
  rw [zbW]
end Go.Proofs.YtepaekbjoombpaaGreatDoor
end
section
namespace Go.Proofs.YtepaekbjoombpaaGreatDoor
open Go Go.Proofs Go.Eng Go.Run Tab
set_option maxRecDepth 100000
set_option linter.unusedSimpArgs false
set_option linter.unusedVariables false
set_option linter.defProp false
set_option maxHeartbeats 2000000
set_option linter.defProp false
theorem txt_isD {b:UInt8}(h:txt b=true)(h2:b≠32):isD b=true:=by
  unfold txt at h
  have:(b == 32)=false:=beq_eq_false_iff_ne.2 h2
  rw [this,Bool.false_or] at h
  rw [zbD]
  simpa using h
theorem zmh (c:UInt8):∀ (l w:List UInt8) (b:UInt8),w∈FL.prt c l→b∈w→b∈l
  | [],w,b,h,hb=>by
    rw [FL.prt,List.mem_singleton] at h
    rw [h] at hb; exact hb
  | x::l,w,b,h,hb=>by
    have ih:=zmh c l
    rw [FL.prt] at h
    split at h
    · rcases List.mem_cons.1 h with h | h
      · rw [h] at hb; cases hb
      · exact List.mem_cons_of_mem _ (ih w b h hb)
    · cases hp:FL.prt c l with
      | nil=>exact absurd hp (FL.zdR c l)
      | cons v ws=>
        rw [hp] at h ih
        rcases List.mem_cons.1 h with h | h
        · rw [h] at hb
          rcases List.mem_cons.1 hb with rfl | hb
          · exact List.mem_cons_self
          · exact List.mem_cons_of_mem _ (ih v b List.mem_cons_self hb)
        · exact List.mem_cons_of_mem _ (ih w b (List.mem_cons_of_mem _ h) hb)
theorem zhh (c:UInt8)(l:List UInt8){w:List UInt8}(h:w∈FL.prt c l):w.length≤l.length:=by
  induction l generalizing w with
  | nil=>
    rw [FL.prt,List.mem_singleton] at h
    rw [h]; exact Nat.le_refl _
  | cons x l ih=>
    rw [FL.prt] at h
    rw [List.length_cons]
    split at h
    · rcases List.mem_cons.1 h with h | h
      · rw [h,List.length_nil]; omega
      · have:=ih h; omega
    · cases hp:FL.prt c l with
      | nil=>exact absurd hp (FL.zdR c l)
      | cons v ws=>
        rw [hp] at h ih
        rcases List.mem_cons.1 h with h | h
        · have:=ih (w:=v) List.mem_cons_self
          rw [h,List.length_cons]; omega
        · have:=ih (w:=w) (List.mem_cons_of_mem _ h); omega
theorem zn6 (w:List UInt8){i:Nat}(hi:i<w.length):valW (w.take (i+1))=10*valW (w.take i)+((w.getD i 0).toNat - 48):=by
  unfold valW dvs
  rw [List.take_add_one,List.getElem?_eq_getElem hi,List.map_append,List.getD_eq_getElem?_getD,List.getElem?_eq_getElem hi]
  exact FL.zex _ _
theorem zec (w:List UInt8):∀ i,i≤w.length→(∀ j,j<i→isD (w.getD j 0)=true)→valW (w.take i)<10 ^ i
  | 0,_,_=>by rw [List.take_zero]; decide
  | i+1,h,hd=>by
    have ih:=zec w i (by omega) fun j hj=>hd j (by omega)
    have h1:=zbD.1 (hd i (by omega))
    rw [zn6 w (by omega),Nat.pow_succ]
    omega
theorem pow6 {n i:Nat}(hi:i≤6)(h:n<10 ^ i):n<1000000:=Nat.lt_of_lt_of_le h (by
  have:=Nat.pow_le_pow_right (n:=10) (by decide) hi
  exact this)
end Go.Proofs.YtepaekbjoombpaaGreatDoor
end
section
namespace Go.Proofs.YtepaekbjoombpaaGreatDoor
open Go Go.Proofs Go.Eng Go.Run Tab
set_option maxRecDepth 100000
set_option linter.unusedSimpArgs false
set_option linter.unusedVariables false
set_option linter.defProp false
set_option maxHeartbeats 2000000
set_option linter.defProp false
def zaE:=(And.intro (And.intro (And.intro @agg9 @by3) (And.intro @by9 (And.intro @inf3 @inf9))) (And.intro (And.intro @sz3 (And.intro @sz9 @zfO)) (And.intro @Tryz.underlying9 (And.intro @Tryz.underlying40 @Tryz.underlying65))))
theorem appF40 {h:Eng.Heap}{er:Env}{ty:TypeId}{m0:Nat}{x y:Operand}{a b:Option Addr}{len cap m c:Nat}{xs ys:List Int}{K:Value→Eng.Heap→Prop}(hx:ev er x=.slice a len cap)(hy:ev er y=.slice b m c)(O:OwnI m0 h 3 a len cap xs)(h0h:m0≤h.size)(I:zM h b m ys)(hb:len+m≤100000)
    (H:∀ a' cap' h',OwnI m0 h' 3 a' (len+m) cap' (xs++ys)→App h h' a a'→K (.slice a' (len+m) cap') h'):ze Tryz.prog (.call ⟨.builtin .append,#[x,y],#[40,40]⟩) ty er h K:=
  zkr Tryz.underlying40 Tryz.underlying40 inf3 sz3 (by rw [by3]; decide) zfO hx hy O h0h I hb H
theorem zgc {m m2:Nat}{h h':Eng.Heap}{el el2:TypeId}{s2:Nat}{a x x':Option Addr}{len cap len2 cap2:Nat}{vs:List Int}{ws:List Value}(O:OwnI m h el a len cap vs)(A:App h h' x x')(P:OwnV m2 h el2 s2 x len2 cap2 ws)(hne:el≠el2):OwnI m h' el a len cap vs:=
  O.keep fun p hp=>A.old _ (O.lt hp).1 fun q hq e=>by
    rcases O.ok with⟨h1,_⟩ | ⟨g,cur,h1,h2,h3,_⟩
    · rw [h1] at hp; cases hp
    rcases P.ok with⟨k1,_⟩ | ⟨g',cur',k1,k2,k3,_⟩
    · rw [k1] at hq; cases hq
    rw [h1] at hp
    rw [k1] at hq
    cases hp
    cases hq
    have e:g'=g:=e
    rw [e,h3] at k3
    cases k3
    exact hne rfl
def acc (p k:Nat):List Nat:=(List.range k).filter fun i=>p.testBit i
theorem zcF {h:Eng.Heap}{a:Option Addr}{ws:List ByteArray}(R:Row h a (zaa ws)){j:Nat}(hj:j<ws.length):zar h (eltP a j)=some (.string ws[j]):=by
  have h1:=R.cell (j:=j) (by rw [zaQ]; exact hj)
  rw [h1]
  simp [zaa]
theorem zfx {h:Eng.Heap}{a:Option Addr}{ws:List ByteArray}(R:Row h a (zaa ws))(hj:0<ws.length):a.isSome=true:=R.isSome (by rw [zaQ]; exact hj)
theorem run_neq_iface_nil {P:Program}(w:World){t tp:TypeId}{p:Value}{ms:Array (String × TypeId)}(ht:P.underlying t=some (.interface ms)):(binOp .neq t (.iface tp p) .nilIface).run P w=.ok (.bool true) w:=by
  have h:∀ d:Nat,(Op.equalIn (d+1) t (.iface tp p) .nilIface).run P w=.ok false w:=fun d=>by simp [Op.equalIn,run_underlying ht]
  simp only [Go.binOp]
  simp [Op.equal,Op.maxDepth,h 9999]
theorem neqErr {P:Program}{e:Eng.Env}{h:Eng.Heap}{ty u yt tp:TypeId}{ms:Array (String × TypeId)}(hu:P.underlying u=some (.interface ms)){x:Operand}{c p:Value}(hx:ev e x=.iface tp p)(hc:ev e (.const c)=.nilIface){K:Value→Eng.Heap→Prop}(H:K (.bool true) h):ze P (.binOp .neq u x (.const c) yt) ty e h K:=
  zk rfl _ H fun w _=>by simp [execOp,hx,hc,eqGuard_at_iface,run_neq_iface_nil w hu]
theorem neqNil {P:Program}{e:Eng.Env}{h:Eng.Heap}{ty u yt:TypeId}{ms:Array (String × TypeId)}(hu:P.underlying u=some (.interface ms)){x:Operand}{c:Value}(hx:ev e x=.nilIface)(hc:ev e (.const c)=.nilIface){K:Value→Eng.Heap→Prop}(H:K (.bool false) h):ze P (.binOp .neq u x (.const c) yt) ty e h K:=
  zk rfl _ H fun w _=>by simp [execOp,hx,hc,eqGuard_nil_constR,Lib.run_neq_nil_nil w hu]
theorem binW_err {op:BinOp}{t:TypeId}{p:Value}{h:Eng.Heap}{K:Value→Eng.Heap→Prop}{F:Prop}:binW op (.iface t p) .nilIface h K F=F:=by unfold binW; rfl
theorem zjh {op:BinOp}{h:Eng.Heap}{K:Value→Eng.Heap→Prop}{F:Prop}:binW op .nilIface .nilIface h K F=F:=by unfold binW; rfl
def zdm (t:List UInt8)(many:Nat):Prop:=(FL.prt 32 t).length=many∧∀ w∈FL.prt 32 t,zcb w∧w.length≤6
def numsL (t:List UInt8):List Nat:=(FL.prt 32 t).map valW
def NumP (el:TypeId)(ok:Prop)(t:List UInt8)(v:Value)(h':Eng.Heap):Prop:=(ok∧∃ a c,v=.tuple #[.slice a (numsL t).length c,.bool true]∧OwnI 0 h' el a (numsL t).length c (nzF (numsL t)))∨(¬ ok∧v=.tuple #[.slice none 0 0,.bool false])
theorem nzF_app (l m:List Nat):nzF (l++m)=nzF l++nzF m:=by simp [nzF]
theorem zdv {α:Type}(l:List α){i:Nat}(hi:i<l.length):l.take (i+1)=l.take i++[l[i]]:=by rw [List.take_add_one,List.getElem?_eq_getElem hi]; rfl
theorem zl1 {ws:List ByteArray}{P:List (List UInt8)}(h:ws.map bl=P){j:Nat}(hj:j<ws.length):bl ws[j]=P[j]'(by rw [← h,List.length_map]; exact hj):=by
  subst h
  simp
theorem ziO (s:ByteArray)(many:Nat)(h:Eng.Heap)(F:Fx h)(hs:s.size≤18)(ht:∀ b∈bl s,txt b=true) :
    zb Tryz.prog 94 #[.string s,.int .i64 many] h (fun v h'=>NumP 3 (zdm (bl s) many) (bl s) v h'∧Ext h h'):=by
  obtain⟨P,hP⟩:∃ P,P=FL.prt 32 (bl s):=⟨_,rfl⟩
  have hPl:=zfP 32 (bl s)
  have hPc:=List.count_le_length (a:=(32:UInt8)) (l:=bl s)
  rw [zz] at hPc
  rw [← hP] at hPl
  (refine zh Tryz.func94 rfl bod94 ?_; simp only [Tryz.ntmps94,Tryz.results94,za,zm,splice,Value.cells,Value.oneCell',Nat.reduceAdd,Nat.reduceSub,Nat.reduceMul,Nat.reduceLeDiff,Int.reduceEq,Nat.reduceEqDiff,zaE])
  refine zb.mono (zhV s 32 h (by omega)) ?_
  rintro v h1 ⟨⟨aS,ws,rfl,RS,hws⟩,x1⟩
  rw [← hP] at hws
  have hwl:ws.length=P.length:=by rw [← hws,List.length_map]
  have hnOK:zdm (bl s) many↔P.length=many∧∀ w∈P,zcb w∧w.length≤6:=by unfold zdm; rw [hP]
  by_cases hm:ws.length=many
  case neg=>
    have hmi:¬ ((ws.length:Nat):Int)=(many:Int):=by omega
    simp only [hmi,decide_false,Bool.not_false,za,Value.cells,Value.oneCell',Nat.reduceAdd,Nat.reduceSub,Nat.reduceMul,Nat.reduceLeDiff,Int.reduceEq,Nat.reduceEqDiff,zaE]
    exact⟨.inr ⟨fun hh=>hm (by rw [hwl]; exact (hnOK.1 hh).1),rfl⟩,x1⟩
  have hmi:((ws.length:Nat):Int)=(many:Int):=by omega
  simp only [hmi,decide_true,Bool.not_true,za,Value.cells,Value.oneCell',Nat.reduceAdd,Nat.reduceSub,Nat.reduceMul,Nat.reduceLeDiff,Int.reduceEq,Nat.reduceEqDiff,zaE]
  have bad:∀ {i:Nat} (hi:i<P.length),¬ (zcb P[i]∧P[i].length≤6)→∀ h',Ext h h'→NumP 3 (zdm (bl s) many) (bl s) (.tuple #[.slice none 0 0,.bool false]) h'∧Ext h h':=fun hi hh h' x=>⟨.inr ⟨fun hk=>hh ((hnOK.1 hk).2 _ (List.getElem_mem hi)),rfl⟩,x⟩
  refine zX [4,5,7,9,10,11,20,21,22,23,24,25,26,27,28,29,30,31,32,33,34,35,36,37,38,39,40,41,42,43,44,45,46] (fun e h'=>Ext h1 h'∧∃ i:Nat,i≤many∧e 20=.int .i64 i∧(∀ w∈P.take i,zcb w∧w.length≤6)∧∃ aW cW,e 7=.slice aW i cW∧OwnI h1.size h' 3 aW i cW (nzF ((P.take i).map valW))) (fun e _=>match e 20 with | .int _ q=>many - q.toNat | _=>0) ⟨Ext.refl _,0,by omega,rfl,fun w hw=>by simp at hw,none,0,rfl,OwnI.nil _ _ _⟩ ?_
  rintro e h2 ⟨x2,i,hi,he,hok,aW,cW,heW,OW⟩
  by_cases him:i<many
  · have hlt:(i:Int)<(many:Int):=by omega
    have meas:many - ((i:Int)+1).toNat<many - (i:Int).toNat:=by omega
    have hiw:i<ws.length:=by omega
    have hiP:i<P.length:=by omega
    have ci:=zcF (RS.ext x2) hiw
    have si:=zfx RS (by omega)
    obtain⟨w,hw⟩:∃ w,w=ws[i]:=⟨_,rfl⟩
    have hbw:=zl1 hws hiw
    rw [← hw] at ci hbw
    have hwm:P[i]∈FL.prt 32 (bl s):=by rw [← hP]; exact List.getElem_mem hiP
    have hwl2:=zhh 32 (bl s) hwm
    rw [← hbw,zz,zz] at hwl2
    simp only [he,heW,hlt,ci,decide_true,Int.toNat_natCast,za,Value.cells,Value.oneCell',Nat.reduceAdd,Nat.reduceSub,Nat.reduceMul,Nat.reduceLeDiff,Int.reduceEq,Nat.reduceEqDiff,zaE]
    refine⟨by omega,si,?_⟩
    refine zb.mono (atoi123 w h2 (F.ext (x1.trans x2)) (by omega)) ?_
    rintro v h3 ⟨HA,x3⟩
    have HB:(∃ n,Lib.atoi (bl w)=some n∧v=.tuple #[.int .i64 n,.nilIface])∨(Lib.atoi (bl w)=none∧∃ t p,v=.tuple #[.int .i64 0,.iface t p]):=HA
    have x13:=x1.trans (x2.trans x3)
    rw [hbw] at HB
    by_cases h0:P[i]=[]
    · rcases HB with⟨n,hn,-⟩ | ⟨-,tt,pp,rfl⟩
      · rw [h0,atoi_nil] at hn; cases hn
      simp only [he,heW,zn,za,Value.cells,Value.oneCell',Nat.reduceAdd,Nat.reduceSub,Nat.reduceMul,Nat.reduceLeDiff,Int.reduceEq,Nat.reduceEqDiff,zaE]
      rw [binW_err]
      refine neqErr Tryz.underlying117 rfl rfl ?_
      simp only [he,heW,zn,za,Value.cells,Value.oneCell',Nat.reduceAdd,Nat.reduceSub,Nat.reduceMul,Nat.reduceLeDiff,Int.reduceEq,Nat.reduceEqDiff,zaE]
      exact bad hiP (fun hh=>hh.1.1 h0) _ x13
    have hdg:∀ b∈P[i],isD b=true:=fun b hb=>txt_isD (ht b (zmh 32 (bl s) _ b hwm hb)) fun e=>FL.prt_no 32 (bl s) _ hwm (e ▸ hb)
    rw [zld h0 hdg] at HB
    rcases HB with⟨n,hn,rfl⟩ | ⟨hn,-⟩
    case inr=>cases hn
    cases hn
    have hsz:w.size=P[i].length:=by rw [← hbw,zz]
    by_cases h6:6<w.size
    · have h6i:(6:Int)<(w.size:Int):=by omega
      simp only [he,heW,zn,za,Value.cells,Value.oneCell',Nat.reduceAdd,Nat.reduceSub,Nat.reduceMul,Nat.reduceLeDiff,Int.reduceEq,Nat.reduceEqDiff,zaE]
      rw [zjh]
      refine neqNil Tryz.underlying117 rfl rfl ?_
      simp only [he,heW,h6i,zn,decide_true,za,Value.cells,Value.oneCell',Nat.reduceAdd,Nat.reduceSub,Nat.reduceMul,Nat.reduceLeDiff,Int.reduceEq,Nat.reduceEqDiff,zaE]
      exact bad hiP (fun hh=>by have:=hh.2; omega) _ x13
    have h6i:¬ (6:Int)<(w.size:Int):=by omega
    simp only [he,heW,zn,za,Value.cells,Value.oneCell',Nat.reduceAdd,Nat.reduceSub,Nat.reduceMul,Nat.reduceLeDiff,Int.reduceEq,Nat.reduceEqDiff,zaE]
    rw [zjh]
    refine neqNil Tryz.underlying117 rfl rfl ?_
    simp only [he,heW,h6i,zn,decide_false,za,Value.cells,Value.oneCell',Nat.reduceAdd,Nat.reduceSub,Nat.reduceMul,Nat.reduceLeDiff,Int.reduceEq,Nat.reduceEqDiff,zaE]
    refine zb.mono (itoa124 (valW P[i]:Int) h3 (F.ext x13) (by omega) (by
      have hv:=zec P[i] P[i].length (Nat.le_refl _) fun j hj=>by
        rw [List.getD_eq_getElem?_getD,List.getElem?_eq_getElem hj]
        exact hdg _ (List.getElem_mem _)
      rw [List.take_length] at hv
      have:=pow6 (by omega) hv
      omega)) ?_
    rintro v h4 ⟨rfl,x4⟩
    rw [zjm]
    have x14:=x13.trans x4
    have hwe:wrd (valW P[i])=w↔zcb P[i]:=by
      rw [← dgb_iff hdg]
      unfold wrd
      constructor
      · intro hh
        have:=congrArg bl hh
        rwa [zao,hbw] at this
      · intro hh
        apply zdo
        rw [zao,hbw,hh]
    by_cases hg:zcb P[i]
    case neg=>
      have hne:¬ wrd (valW P[i])=w:=fun hh=>hg (hwe.1 hh)
      simp only [he,heW,hne,zn,decide_false,Bool.not_false,za,Value.cells,Value.oneCell',Nat.reduceAdd,Nat.reduceSub,Nat.reduceMul,Nat.reduceLeDiff,Int.reduceEq,Nat.reduceEqDiff,zaE]
      exact bad hiP (fun hh=>hg hh.1) _ x14
    have heq:=hwe.2 hg
    have x24:=x3.trans x4
    simp only [he,heW,heq,zn,decide_true,Bool.not_true,za,Value.cells,Value.oneCell',Nat.reduceAdd,Nat.reduceSub,Nat.reduceMul,Nat.reduceLeDiff,Int.reduceEq,Nat.reduceEqDiff,zaE]
    have x5:Ext h4 (h4.push (.cells #[.int .i64 (valW P[i])] 3)):=(Ext.refl h4).push _
    refine appF40 (m0:=h1.size) (m:=1) (ys:=[(valW P[i]:Int)]) rfl rfl ((OW.ext x24).ext x5) ((x2.trans x24).trans x5).size (zM.block (xs:=[(valW P[i]:Int)]) zy) (by omega) fun a' cap' h6 O6 A6=>?_
    have et:nzF ((P.take i).map valW)++[(valW P[i]:Int)]=nzF ((P.take (i+1)).map valW):=by
      rw [zdv P hiP,List.map_append,nzF_app]; rfl
    rw [et] at O6
    simp only [he,za,Value.cells,Value.oneCell',Nat.reduceAdd,Nat.reduceSub,Nat.reduceMul,Nat.reduceLeDiff,Int.reduceEq,Nat.reduceEqDiff,zaE]
    refine⟨by rw [zg]; omega,zD (by kernel_rfl) ⟨A6.ext ((OW.ext x24).ext x5) ((x2.trans x24).trans x5) (Nat.le_refl _),i+1,by omega,rfl,fun u hu=>?_,a',cap',rfl,O6⟩ meas⟩
    rw [zdv P hiP] at hu
    rcases List.mem_append.1 hu with hu | hu
    · exact hok u hu
    · rw [List.mem_singleton.1 hu]; exact⟨hg,by omega⟩
  obtain rfl:many=i:=by omega
  rw [List.take_of_length_le (by omega)] at hok OW
  have e1:(numsL (bl s)).length=many:=by unfold numsL; rw [List.length_map,← hP]; omega
  have e2:numsL (bl s)=P.map valW:=by unfold numsL; rw [hP]
  simp only [he,heW,show ¬ ((many:Int)<(many:Int)) by omega,decide_false,za,Value.cells,Value.oneCell',Nat.reduceAdd,Nat.reduceSub,Nat.reduceMul,Nat.reduceLeDiff,Int.reduceEq,Nat.reduceEqDiff,zaE]
  refine⟨.inl ⟨hnOK.2 ⟨by omega,hok⟩,aW,cW,by rw [e1],by rw [e1,e2]; exact OW.mono (Nat.zero_le _)⟩,x1.trans x2⟩
end Go.Proofs.YtepaekbjoombpaaGreatDoor
end
section
namespace Go.Proofs.YtepaekbjoombpaaGreatDoor
open Go Go.Proofs Go.Eng Go.Run Tab
set_option maxRecDepth 100000
set_option linter.unusedSimpArgs false
set_option linter.unusedVariables false
set_option linter.defProp false
set_option maxHeartbeats 2000000
set_option linter.defProp false
def zbk (s:ByteArray):List UInt8:=bl (s.extract 0 (s.size - 2))
def rdOK (s:ByteArray)(many:Nat):Prop:=zT s=true∧zdm (zbk s) many
end Go.Proofs.YtepaekbjoombpaaGreatDoor
end
section
namespace Go.Proofs.YtepaekbjoombpaaGreatDoor
open Go Go.Proofs Go.Eng
set_option maxRecDepth 100000
set_option linter.unusedSimpArgs false
set_option linter.unusedVariables false
set_option linter.defProp false
def lnsB (s:ByteArray):List ByteArray:=(FL.prt 10 (bl (s.extract 0 (s.size - 1)))).map bs
def zak (n i:Nat):Nat:=if i=0 then 2 else if i+1=n then 2 else 4
def rowN (w:ByteArray):List Nat:=numsL (zbk w)
def rgtB (w:ByteArray):Bool:=decide (w.extract (w.size - 1) w.size=zbw (w.extract 0 (w.size - 2)))
def enOf (l:List Nat):En:=⟨(l.getD 0 0:Nat),(l.getD 1 0:Nat),(l.getD 2 0:Nat),(l.getD 3 0:Nat)⟩
def midL {α:Type}(L:List α):List α:=(L.drop 1).take (L.length - 2)
def esOf (L:List ByteArray):List En:=(midL L).map fun w=>enOf (rowN w)
def zaS (L:List ByteArray):Nat:=(rowN (L.getD 0 ⟨#[]⟩)).getD 0 0
def zbl (L:List ByteArray):Nat:=(rowN (L.getD 0 ⟨#[]⟩)).getD 1 0
def zdt (L:List ByteArray):List Nat:=rowN (L.getD (L.length - 1) ⟨#[]⟩)
def zcy (L:List ByteArray):Prop:=∀ i,i<L.length→rdOK (L.getD i ⟨#[]⟩) (zak L.length i)
def zdx (L:List ByteArray):Prop:=(zdt L).getD 0 0=(esOf L).length∧(((zdt L).getD 1 0:Nat):Int)=totL (esOf L)
noncomputable def ldE (s:ByteArray):Int:=open Classical in
  if 400<s.size then 7
  else if ¬ (lstB s 10=true∧2≤(lnsB s).length) then 8
  else if ¬ zcy (lnsB s) then 8
  else if ¬ (lnsB s).all rgtB=true then 14
  else if ¬ zdx (lnsB s) then 15
  else chk (zaS (lnsB s)) (zbl (lnsB s)) (esOf (lnsB s))
def LdP (s:ByteArray)(v:Value)(h':Eng.Heap):Prop:=
  (ldE s=0∧∃ a n c,v=.tuple #[.agg #[.int .i64 (zaS (lnsB s)),.int .i64 (zbl (lnsB s)),.slice a n c],.int .i64 0]∧n=(esOf (lnsB s)).length∧Row h' a (ensV (esOf (lnsB s)))) ∨
  (ldE s≠0∧v=.tuple #[.agg #[.int .i64 0,.int .i64 0,.slice none 0 0],.int .i64 (ldE s)])
section
variable {s:ByteArray}
theorem zgh (h:400<s.size):ldE s=7:=by unfold ldE; rw [if_pos h]
theorem ze0 (h:¬ 400<s.size)(h1:¬ (lstB s 10=true∧2≤(lnsB s).length)):ldE s=8:=by unfold ldE; rw [if_neg h,if_pos h1]
theorem zj7 (h:¬ 400<s.size)(h1:lstB s 10=true∧2≤(lnsB s).length)(h2:¬ zcy (lnsB s)):ldE s=8:=by unfold ldE; rw [if_neg h,if_neg (fun hh=>hh h1),if_pos h2]
theorem zlZ (h:¬ 400<s.size)(h1:lstB s 10=true∧2≤(lnsB s).length)(h2:zcy (lnsB s))(h3:(lnsB s).all rgtB=false):ldE s=14:=by
  unfold ldE; rw [if_neg h,if_neg (fun hh=>hh h1),if_neg (fun hh=>hh h2),if_pos (by rw [h3]; decide)]
theorem zh3 (h:¬ 400<s.size)(h1:lstB s 10=true∧2≤(lnsB s).length)(h2:zcy (lnsB s))(h3:(lnsB s).all rgtB=true)(h4:¬ zdx (lnsB s)):ldE s=15:=by
  unfold ldE; rw [if_neg h,if_neg (fun hh=>hh h1),if_neg (fun hh=>hh h2),if_neg (fun hh=>hh h3),if_pos h4]
theorem zh8 (h:¬ 400<s.size)(h1:lstB s 10=true∧2≤(lnsB s).length)(h2:zcy (lnsB s))(h3:(lnsB s).all rgtB=true)(h4:zdx (lnsB s)):ldE s=chk (zaS (lnsB s)) (zbl (lnsB s)) (esOf (lnsB s)):=by
  unfold ldE; rw [if_neg h,if_neg (fun hh=>hh h1),if_neg (fun hh=>hh h2),if_neg (fun hh=>hh h3),if_neg (fun hh=>hh h4)]
end
theorem ws_bs {ws:List ByteArray}{P:List (List UInt8)}(h:ws.map bl=P):P.map bs=ws:=by
  rw [← h,List.map_map]
  exact (List.map_congr_left fun w _=>bs_bl w).trans (List.map_id _)
theorem zeo {w:ByteArray}{many:Nat}(h:rdOK w many):(rowN w).length=many:=by
  unfold rowN numsL
  rw [List.length_map]
  exact h.2.1
theorem zj4 (c:UInt8):∀ l:List UInt8,FL.prt c (l++[c])=FL.prt c l++[[]]
  | []=>by
    show FL.prt c [c]=_
    simp [FL.prt]
  | x::l=>by
    have ih:=zj4 c l
    rw [List.cons_append,FL.prt,FL.prt,ih]
    split
    · rfl
    · cases hp:FL.prt c l with
      | nil=>exact absurd hp (FL.zdR c l)
      | cons w ws=>rfl
theorem zhX {α:Type}{L:List α}{i:Nat}(d:α)(hi:i<L.length - 2):(midL L).getD i d=L.getD (i+1) d:=by
  unfold midL
  rw [List.getD_eq_getElem?_getD,List.getElem?_take,if_pos hi,List.getElem?_drop,List.getD_eq_getElem?_getD,Nat.add_comm 1 i]
theorem zfU {α:Type}(L:List α):(midL L).length=L.length - 2:=by
  unfold midL
  rw [List.length_take,List.length_drop]
  omega
theorem row_lt {w:ByteArray}{many:Nat}(h:rdOK w many):∀ x∈rowN w,x<1000000:=by
  intro x hx
  unfold rowN numsL at hx
  obtain⟨u,hu,rfl⟩:=List.mem_map.1 hx
  obtain⟨h1,h2⟩:=h.2.2 u hu
  have hv:=zec u u.length (Nat.le_refl _) fun j hj=>by
    rw [List.getD_eq_getElem?_getD,List.getElem?_eq_getElem hj]
    exact h1.2.1 _ (List.getElem_mem _)
  rw [List.take_length] at hv
  exact pow6 h2 hv
theorem zk4 {w:ByteArray}{many:Nat}(h:rdOK w many)(i:Nat):(rowN w).getD i 0<1000000:=by
  rw [List.getD_eq_getElem?_getD]
  by_cases hi:i<(rowN w).length
  · rw [List.getElem?_eq_getElem hi]
    exact row_lt h _ (List.getElem_mem hi)
  · rw [List.getElem?_eq_none (by omega)]
    decide
theorem zms {L:List ByteArray}(h:zcy L){w:ByteArray}(hw:w∈L):∃ many,rdOK w many:=by
  obtain⟨i,hi,rfl⟩:=List.mem_iff_getElem.1 hw
  have:=h i hi
  rw [List.getD_eq_getElem?_getD,List.getElem?_eq_getElem hi] at this
  exact⟨_,this⟩
theorem mid_mem {α:Type}{L:List α}{x:α}(h:x∈midL L):x∈L:=List.mem_of_mem_drop (List.mem_of_mem_take h)
theorem zoh {L:List ByteArray}(h:zcy L):∀ e∈esOf L,0≤e.a∧e.a≤1000000:=by
  intro e he
  obtain⟨w,hw,rfl⟩:=List.mem_map.1 he
  obtain⟨many,hr⟩:=zms h (mid_mem hw)
  have h1:=zk4 hr 3
  show 0≤(((rowN w).getD 3 0:Nat):Int)∧(((rowN w).getD 3 0:Nat):Int)≤1000000
  omega
end Go.Proofs.YtepaekbjoombpaaGreatDoor
end
