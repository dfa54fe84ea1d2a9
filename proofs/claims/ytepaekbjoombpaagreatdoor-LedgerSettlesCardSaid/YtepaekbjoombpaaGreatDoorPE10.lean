/- Texts joined by pack.py: lemmas for YtepaekbjoombpaaGreatDoorSettles. No condition. -/
import Derived.Test.YtepaekbjoombpaaGreatDoorPE9
set_option linter.unusedSimpArgs false
set_option linter.unusedVariables false
set_option linter.defProp false
section
namespace Go.Proofs.YtepaekbjoombpaaGreatDoor
open Go Go.Proofs Go.Eng Go.Run Tab
set_option maxRecDepth 100000
set_option linter.unusedSimpArgs false
set_option linter.unusedVariables false
set_option linter.defProp false
set_option maxHeartbeats 4000000
set_option linter.defProp false
def zaE:=(And.intro (And.intro (And.intro (And.intro @agg162 @agg3) (And.intro @zik @by163)) (And.intro (And.intro @zjP @zmJ) (And.intro @zgR @ziK))) (And.intro (And.intro (And.intro @inf3 @okf162) (And.intro @zjb @sz163)) (And.intro (And.intro @sz3 @zhp) (And.intro @zhl (And.intro @Tryz.underlying163 @Tryz.underlying189)))))
theorem gd_noneG {P:Program}{s:Tmp}{w:Bool}{op:Op}{ty:TypeId}{all rest:List Oper}{k:Cont}{dst:Option Tmp}{e:Env}{d:List Deferred}{h:Eng.Heap}:gd P undef s w op ty all rest k dst e d h=zao P all rest k (putE e dst undef) d h:=zib
theorem zlT {P:Program}{f:FuncId}{args:Array Value}{h:Eng.Heap}{K:Value→Eng.Heap→Prop}(r:Value)(c:zb P f args h (fun v' h''=>v'=r∧h''=h))(H:K r h):cQ P EqH f args h K:=by
  unfold cQ
  refine⟨r,fun h' e=>?_,H⟩
  have e:h'=h:=e
  subst e
  exact c
def kvG (s:Nat):Value:=.agg #[.int .i64 (s:Nat)]
theorem zdP:Keys Tryz.prog 162 kvG:=by
  refine Keys.flat (ki:=(Pt.pr.ty 162).getD ⟨0,0,.any,.other,[]⟩) (kf:=fun p=>.agg [.int .i64 (p:Nat)]) (by rw [Tryz.underlying162]) (Pt.ok.tf (by kernel_rfl)) (fun p=>?_) (fun p q=>?_)
  · simp only [VR]
    exact⟨_,rfl,by simpa [Eng.ints] using zg1 (ι:=fun _=>none) [(p:Int)]⟩
  · have hb:=zgd [(p:Int)] [(q:Int)] rfl
    have hd:decide ([(p:Int)]=[(q:Int)])=decide (p=q):=by
      rw [decide_eq_decide]
      simp
      omega
    rw [hd] at hb
    exact hb
theorem zhi {m:Nat}{h h':Eng.Heap}{el:TypeId}{s:Nat}{a:Option Addr}{len cap b:Nat}{vs:List Value}{ents:Array MapEntry}{c:Nat}(O:OwnV m h el s a len cap vs)(hb:h[b]?=some (.map ents c))(x:Chg h h' b):OwnV m h' el s a len cap vs:=
  O.keep fun p hp=>x.old _ (O.lt hp).1 fun e=>by
    rcases O.ok with⟨h1,_⟩ | ⟨g,cur,h1,h2,h3,_⟩
    · rw [h1] at hp; cases hp
    · rw [h1] at hp
      cases hp
      have e:g=b:=e
      rw [e,hb] at h3
      cases h3
theorem zfB {m m2:Nat}{h h':Eng.Heap}{el el2:TypeId}{s s2:Nat}{a x x':Option Addr}{len cap len2 cap2:Nat}{vs ws:List Value}(O:OwnV m h el s a len cap vs)(A:App h h' x x')(P:OwnV m2 h el2 s2 x len2 cap2 ws)(hne:el≠el2):OwnV m h' el s a len cap vs:=
  O.keep fun p hp=>A.old _ (O.lt hp).1 fun q hq e=>by
    rcases O.ok with⟨h1,_⟩ | ⟨g,cur,h1,h2,h3,_⟩
    · rw [h1] at hp; cases hp
    rcases P.ok with⟨k1,_⟩ | ⟨g',cur',k1,k2,k3,_⟩
    · rw [k1] at hq; cases hq
    rw [h1] at hp
    rw [k1] at hq
    cases hp
    cases hq
    have e:g'=g:=e
    rw [e,h3] at k3
    cases k3
    exact hne rfl
theorem gr_le {z:Nat→Prop}{s k:Nat}(h:LS.Gr z s k):k≤s:=by
  induction h with
  | nil=>exact Nat.le_refl _
  | cons p r k hz hp hd hr ih=>rw [LS.zmm p r hd]; omega
theorem pt_le {z:Nat→Prop}{s:Nat}{ps:List Nat}(h:LS.Pt z s ps):ps.length≤s:=gr_le h.gr
theorem app189 {h:Eng.Heap}{er:Env}{ty:TypeId}{m0:Nat}{x y:Operand}{a b:Option Addr}{len cap m c:Nat}{T U:List Hd}{K:Value→Eng.Heap→Prop}(hx:ev er x=.slice a len cap)(hy:ev er y=.slice b m c)(O:OwnV m0 h 163 1 a len cap (hdsV T))(h0h:m0≤h.size)(I:Row h b (hdsV U))(hm:m=U.length)(hb:len+m≤1000)
    (H:∀ a' cap' h',OwnV m0 h' 163 1 a' (len+m) cap' (hdsV (T++U))→App h h' a a'→K (.slice a' (len+m) cap') h'):zg Tryz.prog (.call ⟨.builtin .append,#[x,y],#[189,189]⟩) ty er h K:=
  zcO Tryz.underlying189 Tryz.underlying189 ziK sz163 zhl (by rfl) hx hy O h0h I (by rw [zF]; omega) (fun u hu=>by
    obtain⟨x,_,rfl⟩:=List.mem_map.1 hu
    rfl) (by omega) (by rw [by163]; omega) fun a' cap' h' O' A'=>H a' cap' h' (by
      have e:hdsV T++hdsV U=hdsV (T++U):=by simp [hdsV]
      rw [← e]; exact O') A'
structure Fnd (z:Nat→Prop)(h:Eng.Heap)(fb:Nat)(fs:List (Nat × Value × Nat))(fc:Nat):Prop where
  map:MapV kvG h fb fs fc
  val:∀ s v,getA s fs=some v→∃ a n c ps,v=.slice a n c∧n=ps.length∧OwnV 0 h 162 1 a n c (ints (nz ps))∧LS.Pt z s ps∧LS.Most z s n
theorem Fnd.ext {z:Nat→Prop}{h h':Eng.Heap}{fb:Nat}{fs:List (Nat × Value × Nat)}{fc:Nat}(F:Fnd z h fb fs fc)(x:Ext h h'):Fnd z h' fb fs fc:=
  ⟨F.map.ext x,fun s v hv=>by
    obtain⟨a,n,c,ps,h1,h2,h3,h4,h5⟩:=F.val s v hv
    exact⟨a,n,c,ps,h1,h2,h3.ext x,h4,h5⟩⟩
theorem Fnd.appG {z:Nat→Prop}{h h':Eng.Heap}{fb:Nat}{fs:List (Nat × Value × Nat)}{fc m0:Nat}{x x':Option Addr}{len cap:Nat}{ws:List Value}(F:Fnd z h fb fs fc)(A:App h h' x x')(P:OwnV m0 h 163 1 x len cap ws)(hm:fb<m0):Fnd z h' fb fs fc:=
  ⟨F.map.keep (A.old fb (zt F.map.obj) fun p hp=>by have:=(P.lt hp).2; omega),fun s v hv=>by
    obtain⟨a,n,c,ps,h1,h2,h3,h4,h5⟩:=F.val s v hv
    exact⟨a,n,c,ps,h1,h2,zfB h3 A P (by decide),h4,h5⟩⟩
def Trd (z:Nat→Prop)(all:Nat)(h:Eng.Heap)(u:Hd):Prop:=u=(none,0,0)∨∃ ps:List Nat,u.2.1=ps.length∧OwnV 0 h 162 1 u.1 u.2.1 u.2.2 (ints (nz ps))∧LS.Pt z all ps
theorem Trd.chg {z:Nat→Prop}{all:Nat}{h h':Eng.Heap}{u:Hd}{b:Nat}{ents:Array MapEntry}{c:Nat}(T:Trd z all h u)(hb:h[b]?=some (.map ents c))(x:Chg h h' b):Trd z all h' u:=by
  rcases T with h1 | ⟨ps,h1,h2,h3⟩
  · exact .inl h1
  · exact .inr ⟨ps,h1,zhi h2 hb x,h3⟩
theorem Trd.ext {z:Nat→Prop}{all:Nat}{h h':Eng.Heap}{u:Hd}(T:Trd z all h u)(x:Ext h h'):Trd z all h' u:=by
  rcases T with h1 | ⟨ps,h1,h2,h3⟩
  · exact .inl h1
  · exact .inr ⟨ps,h1,h2.ext x,h3⟩
def DivP (z:Nat→Prop)(all fb:Nat)(h:Eng.Heap)(v:Value)(h':Eng.Heap):Prop:=(∃ a n c ps,v=.slice a n c∧n=ps.length∧OwnV 0 h' 162 1 a n c (ints (nz ps))∧LS.Pt z all ps∧LS.Most z all n)∧Chg h h' fb∧∃ fs fc,Fnd z h' fb fs fc
theorem zrV (l:Nat→Int)(A O eb fb ce:Nat)(es:List (Nat × Value × Nat))(hO:O<256)(hne:eb≠fb)(hE:∀ s,s≠0→s&&&O=s→((getA s es).isSome=true↔LS.zero l A s)) :
    ∀ (all:Nat) (fs:List (Nat × Value × Nat)) (fc:Nat) (h:Eng.Heap),all&&&O=all→LS.zero l A all→MapV kvG h eb es ce→Fnd (LS.zero l A) h fb fs fc →
    zb Tryz.prog 127 #[.agg #[.int .i64 all],.map (some eb),.map (some fb)] h (DivP (LS.zero l A) all fb h):=fun all=>by
  induction all using Nat.strongRecOn with
  | ind all ih=>
    intro fs fc h hall hz ME F
    have hlt:all<256:=by
      have:all&&&O≤O:=Nat.and_le_right
      omega
    (refine ze Tryz.func127 rfl bod127 ?_; simp only [Tryz.ntmps127,Tryz.results127,za,zh,splice,Value.cells,Value.oneCell',Nat.reduceAdd,Nat.reduceSub,Nat.reduceMul,Nat.reduceLeDiff,Int.reduceEq,Nat.reduceEqDiff,zaE])
    refine zqe ?_
    have x0:Ext h (h.push (.cells #[.int .i64 all] 162)):=(Ext.refl h).push _
    have q0:=zu (h:=h) (o:=.cells #[.int .i64 (all:Nat)] 162)
    generalize h.push (.cells #[.int .i64 (all:Nat)] 162)=hh at x0 q0 ⊢
    by_cases h0:(all:Int)=0
    · have h0':all=0:=by omega
      simp only [h0,q0,decide_true,za,Value.cells,Value.oneCell',Nat.reduceAdd,Nat.reduceSub,Nat.reduceMul,Nat.reduceLeDiff,Int.reduceEq,Nat.reduceEqDiff,zy,zI,zB,zA,zH,zM,zaE]
      subst h0'
      exact⟨⟨none,0,0,[],rfl,rfl,OwnV.nil _ _ _ _,rfl,LS.zkG _⟩,Chg.of_ext x0 _,fs,fc,F.ext x0⟩
    have h0':all≠0:=by omega
    have F1:=F.ext x0
    have M1:=ME.ext x0
    simp only [h0,q0,decide_false,za,Value.cells,Value.oneCell',Nat.reduceAdd,Nat.reduceSub,Nat.reduceMul,Nat.reduceLeDiff,Int.reduceEq,Nat.reduceEqDiff,zy,zI,zB,zA,zH,zM,zaE]
    refine zeo Tryz.underlying165 zhl zdP F1.map (a:=all) (by rfl) (by rfl) ?_
    cases hfa:getA all fs with
    | some v=>
      obtain⟨a,n,c,ps,rfl,hn,hr,hp,hm⟩:=F1.val all v hfa
      simp only [Option.getD_some,Option.isSome_some,if_true,za,Value.cells,Value.oneCell',Nat.reduceAdd,Nat.reduceSub,Nat.reduceMul,Nat.reduceLeDiff,Int.reduceEq,Nat.reduceEqDiff,zy,zI,zB,zA,zH,zM,zaE]
      exact⟨⟨a,n,c,ps,rfl,hn,hr,hp,hm⟩,Chg.of_ext x0 _,fs,fc,F1⟩
    | none=>
    obtain⟨i,hi8,hlow,hbit⟩:=zof h0' hlt
    have hlow2:zan .and .i64 (all:Int) (0 - (all:Int))=((2 ^ i:Nat):Int):=by rw [Int.zero_sub]; exact hlow
    simp only [Option.getD_none,Option.isSome_none,if_true,q0,hlow,za,Value.cells,Value.oneCell',Nat.reduceAdd,Nat.reduceSub,Nat.reduceMul,Nat.reduceLeDiff,Int.reduceEq,Nat.reduceEqDiff,zy,zI,zB,zA,zH,zM,zaE]
    refine⟨by rw [zf]; omega,?_⟩
    have hnn:¬ (h.size=hh.size):=by have:=zt q0; omega
    simp only [hnn,if_false,splice,List.drop,List.take,za,Value.cells,Value.oneCell',Nat.reduceAdd,Nat.reduceSub,Nat.reduceMul,Nat.reduceLeDiff,Int.reduceEq,Nat.reduceEqDiff,zy,zI,zB,zA,zH,zM,zaE]
    have q1:=zaO (o:=.cells #[.slice none 0 0] 163) q0
    have xw:Ext hh (hh.push (.cells #[.slice none 0 0] 163)):=(Ext.refl hh).push _
    have OT:OwnV hh.size (hh.push (.cells #[.slice none 0 0] 163)) 163 1 (some ⟨hh.size,0,none⟩) 1 1 (hdsV [(none,0,0)]):=⟨rfl,.inr ⟨hh.size,_,rfl,Nat.le_refl _,zu,by simp,by simp,by simp [hdsV,hdV]⟩⟩
    have ifb:fb<h.size:=zt F.map.obj
    have s0:=x0.size
    refine zo [10,11,12,13,34,35,36,37,38,39,40,41,42,43,44,45,46,47,48,49,50,51,52,53,54,55,56,57,58,59,60,61,62,63,64,65,66,67,68,69,70,71] (fun e h'=>Chg hh h' fb∧h'[h.size]?=some (.cells #[.int .i64 (all:Nat)] 162)∧MapV kvG h' eb es ce∧(∃ fs fc,Fnd (LS.zero l A) h' fb fs fc)∧∃ part best:Nat,e 11=.int .i64 part∧LS.Loop (LS.zero l A) all i part best∧∃ aT cT T,e 10=.slice aT T.length cT∧OwnV hh.size h' 163 1 aT T.length cT (hdsV T)∧0<T.length∧T.length+part≤all+1∧(∀ u,u∈T→Trd (LS.zero l A) all h' u∧u.2.1≤best)∧∃ u,u∈T∧u.2.1=best) (fun e _=>match e 11 with | .int _ q=>q.toNat | _=>0) ?_ ?_
    · refine⟨Chg.of_ext xw _,q1,M1.ext xw,⟨fs,fc,F1.ext xw⟩,all,0,rfl,LS.Loop.start _ _ _,some ⟨hh.size,0,none⟩,1,[(none,0,0)],rfl,OT,by simp,by simp; omega,fun u hu=>?_,(none,0,0),by simp,rfl⟩
      rw [List.mem_singleton] at hu
      rw [hu]
      exact⟨.inl rfl,Nat.le_refl _⟩
    rintro e h1 ⟨c1,q2,ME2,⟨fs2,fc2,F2⟩,part,best,he,L,aT,cT,T,heT,OT2,hT0,hTl,hT,hTb⟩
    by_cases hp0:0<part
    · have hp1:(0:Int)<(part:Int):=by omega
      have hpa:part&&&all=part:=L.in_
      have hple:part≤all:=by rw [← hpa]; exact Nat.and_le_right
      have hpO:part&&&O=part:=by
        have e1:part&&&O=(part&&&all)&&&O:=by rw [hpa]
        rw [e1,Nat.and_assoc,hall,hpa]
      have hEp:=hE part (by omega) hpO
      have epn:(part:Int) - 1=((part - 1:Nat):Int):=by omega
      have enx:zan .and .i64 ((part - 1:Nat):Int) (all:Int)=(((part - 1)&&&all:Nat):Int):=zdr _ _ (by omega) (by omega)
      have hnl:=LS.zn3 (p:=part) (l:=all) hp0
      have e2i:2 ^ i≤128:=by
        have:2 ^ i≤2 ^ 7:=Nat.pow_le_pow_right (by decide) (by omega)
        simpa using this
      have efb:zan .and .i64 (part:Int) ((2 ^ i:Nat):Int)=((part&&&2 ^ i:Nat):Int):=zdr _ _ (by omega) (by omega)
      have meas:(((part - 1)&&&all:Nat):Int).toNat<(part:Int).toNat:=by omega
      have skp:(LS.zero l A part→part.testBit i=true→False)→LS.Loop (LS.zero l A) all i ((part - 1)&&&all) best:=fun hh=>L.skip hp0 hh
      simp only [he,heT,hp1,decide_true,za,Value.cells,Value.oneCell',Nat.reduceAdd,Nat.reduceSub,Nat.reduceMul,Nat.reduceLeDiff,Int.reduceEq,Nat.reduceEqDiff,zy,zI,zB,zA,zH,zM,zaE]
      refine zeo Tryz.underlying160 zfP zdP ME2 (a:=part) (by rfl) (by rfl) ?_
      cases hsome:(getA part es).isSome with
      | false=>
        have hnz:¬ LS.zero l A part:=fun hh=>by rw [hEp.2 hh] at hsome; cases hsome
        simp only [he,q2,if_true,Bool.not_false,gd_noneG,epn,enx,za,Value.cells,Value.oneCell',Nat.reduceAdd,Nat.reduceSub,Nat.reduceMul,Nat.reduceLeDiff,Int.reduceEq,Nat.reduceEqDiff,zy,zI,zB,zA,zH,zM,zaE]
        refine⟨by rw [zf]; omega,zi (by kernel_rfl) ⟨c1,q2,ME2,⟨fs2,fc2,F2⟩,(part - 1)&&&all,best,rfl,skp fun h _=>hnz h,aT,cT,T,rfl,OT2,hT0,by omega,hT,hTb⟩ meas⟩
      | true=>
      have hzp:LS.zero l A part:=hEp.1 hsome
      by_cases hb:part.testBit i=true
      case neg=>
        have e0:part&&&2 ^ i=0:=by rw [zgZ,if_neg hb]
        rw [e0] at efb
        have efb2:zan .and .i64 (part:Int) ((2 ^ i:Nat):Int)=0:=efb
        simp only [he,q2,hlow2,efb2,if_true,Bool.not_true,decide_true,epn,enx,za,Value.cells,Value.oneCell',Nat.reduceAdd,Nat.reduceSub,Nat.reduceMul,Nat.reduceLeDiff,Int.reduceEq,Nat.reduceEqDiff,zy,zI,zB,zA,zH,zM,zaE]
        refine⟨by rw [zf]; omega,zi (by kernel_rfl) ⟨c1,q2,ME2,⟨fs2,fc2,F2⟩,(part - 1)&&&all,best,rfl,skp fun _ h=>hb h,aT,cT,T,rfl,OT2,hT0,by omega,hT,hTb⟩ meas⟩
      have e0:part&&&2 ^ i=2 ^ i:=by rw [zgZ,if_pos hb]
      rw [e0] at efb
      have ne0:¬ ((2 ^ i:Nat):Int)=0:=by
        have:0<2 ^ i:=Nat.pow_pos (by decide)
        omega
      have enot:=zqi all part (by omega) hpa
      have hn1:¬ (h.size=h1.size):=by have:=zt q2; omega
      have hfb1:fb<h1.size:=zt F2.map.obj
      have heb1:eb<h1.size:=zt ME2.obj
      simp only [he,heT,q2,hlow2,efb,ne0,enot,hn1,if_true,if_false,splice,List.drop,List.take,List.length_cons,List.length_nil,Bool.not_true,decide_false,za,Value.cells,Value.oneCell',Nat.reduceAdd,Nat.reduceSub,Nat.reduceMul,Nat.reduceLeDiff,Int.reduceEq,Nat.reduceEqDiff,zy,zI,zB,zA,zH,zM,zaE]
      have xa:Ext h1 (h1.push (.cells #[.int .i64 (part:Nat)] 162)):=(Ext.refl h1).push _
      have qa:=zu (h:=h1) (o:=.cells #[.int .i64 (part:Nat)] 162)
      obtain⟨pr1,pr2⟩:=LS.zeE hpa
      have hrO:(all - part)&&&O=all - part:=by
        have e1:(all - part)&&&all=all - part:=by
          have:(part|||(all - part))&&&(all - part)=all - part:=by
            apply Nat.eq_of_testBit_eq
            intro j
            rw [Nat.testBit_and,Nat.testBit_or]
            cases (all - part).testBit j <;> simp
          rw [← pr1] at this
          rw [Nat.and_comm]; exact this
        have e2:(all - part)&&&O=((all - part)&&&all)&&&O:=by rw [e1]
        rw [e2,Nat.and_assoc,hall,e1]
      refine zb.mono (ih (all - part) (by omega) fs2 fc2 _ hrO (LS.zgL hpa hz hzp) (ME2.ext xa) (F2.ext xa)) ?_
      rintro v h2 ⟨⟨a3,n3,c3,ps,rfl,hn3,hr3,hpt3,hm3⟩,c2,fs3,fc3,F3⟩
      have hle3:=pt_le hpt3
      have y2:Chg h1 h2 fb:=(Chg.of_ext xa fb).trans c2
      have qa2:=c2.get qa (by omega)
      simp only [he,heT,splice,List.drop,List.take,List.length_cons,List.length_nil,if_true,za,Value.cells,Value.oneCell',Nat.reduceAdd,Nat.reduceSub,Nat.reduceMul,Nat.reduceLeDiff,Int.reduceEq,Nat.reduceEqDiff,zy,zI,zB,zA,zH,zM,zaE]
      have hh1:=c1.size
      have hs2:=y2.size
      have OT3:OwnV hh.size h2 163 1 aT T.length cT (hdsV T):=OT2.keep fun p hp=>y2.old _ (OT2.lt hp).1 (by have:=(OT2.lt hp).2; omega)
      have xc:Ext h2 (h2.push (.cells #[.slice (some ⟨h1.size,0,none⟩) 1 1,.slice a3 n3 c3] 163)):=(Ext.refl h2).push _
      refine zb.mono (zrA (some ⟨h2.size,0,none⟩) 2 (some ⟨h1.size,0,none⟩) 1 1 [part] a3 n3 c3 ps _ (Row.block (c:=hdsV [(some ⟨h1.size,0,none⟩,1,1),(a3,n3,c3)]) zu) ((zaB qa2).row.ext xc) rfl (hr3.row.ext xc) hn3 (by omega) (by omega)) ?_
      rintro v h4 ⟨⟨a4,c4,rfl,O4⟩,x4⟩
      have x24:=xc.trans x4
      simp only [he,heT,splice,List.drop,List.take,List.length_cons,List.length_nil,if_true,za,Value.cells,Value.oneCell',Nat.reduceAdd,Nat.reduceSub,Nat.reduceMul,Nat.reduceLeDiff,Int.reduceEq,Nat.reduceEqDiff,zy,zI,zB,zA,zH,zM,zaE]
      have xd:Ext h4 (h4.push (.cells #[.slice a4 (1+n3) c4] 163)):=(Ext.refl h4).push _
      have x2d:=x24.trans xd
      have OT4:=OT3.ext x2d
      have sd:=x2d.size
      refine app189 (m0:=hh.size) (len:=T.length) (T:=T) (U:=[(a4,1+n3,c4)]) rfl rfl OT4 (by omega) (Row.block (c:=hdsV [(a4,1+n3,c4)]) zu) rfl (by omega) fun a5 c5 h5 O5 A5=>?_
      have c5':Chg hh h5 fb:=by
        have c0:=(c1.trans y2).ext x2d
        exact⟨Nat.le_trans c0.size A5.size,fun c hc hne=>(A5.old c (Nat.lt_of_lt_of_le hc c0.size) fun p hp=>by have:=(OT4.lt hp).2; omega).trans (c0.old c hc hne)⟩
      have q5:h5[h.size]?=some (.cells #[.int .i64 (all:Nat)] 162):=A5.updV OT4 (x2d.get (y2.get q2 (by omega))) (zt q0)
      have M5:MapV kvG h5 eb es ce:=((ME2.keep (y2.old eb heb1 hne)).ext x2d).keep (A5.old eb (by omega) fun p hp=>by have:=(OT4.lt hp).2; have:=zt ME.obj; omega)
      have F5:=(F3.ext x2d).appG A5 OT4 (by omega)
      have O45:=zfB (O4.ext xd) A5 OT4 (by decide)
      have hPt:LS.Pt (LS.zero l A) all ([part]++ps):=⟨all - part,pr1,pr2,hzp,by omega,hpt3⟩
      have hLn:=L.take hp0 hzp hm3 (LS.zkO hm3 (LS.zgL hpa hz hzp))
      simp only [he,q5,epn,enx,za,Value.cells,Value.oneCell',Nat.reduceAdd,Nat.reduceSub,Nat.reduceMul,Nat.reduceLeDiff,Int.reduceEq,Nat.reduceEqDiff,zy,zI,zB,zA,zH,zM,zaE]
      refine⟨by rw [zf]; omega,zi (by kernel_rfl) ⟨c5',q5,M5,⟨fs3,fc3,F5⟩,(part - 1)&&&all,max best (1+n3),rfl,hLn,a5,c5,T++[(a4,1+n3,c4)],by simp,by simpa using O5,by simp,by simp; omega,fun u hu=>?_,?_⟩ meas⟩
      · rcases List.mem_append.1 hu with hu | hu
        · obtain⟨t1,t2⟩:=hT u hu
          refine⟨?_,by omega⟩
          rcases t1 with t1 | ⟨qs,t1,t3,t4⟩
          · exact .inl t1
          · exact .inr ⟨qs,t1,zfB ((zhi t3 F2.map.obj y2).ext x2d) A5 OT4 (by decide),t4⟩
        · rw [List.mem_singleton] at hu
          rw [hu]
          exact⟨.inr ⟨[part]++ps,by simp; omega,O45,hPt⟩,by show 1+n3≤_; omega⟩
      · by_cases hbb:best≤1+n3
        · exact⟨(a4,1+n3,c4),by simp,by show 1+n3=_; omega⟩
        · obtain⟨u,hu,e⟩:=hTb
          exact⟨u,List.mem_append_left _ hu,by omega⟩
    have hp1:¬ (0:Int)<(part:Int):=by omega
    obtain rfl:part=0:=by omega
    simp only [he,heT,hp1,q2,decide_false,za,Value.cells,Value.oneCell',Nat.reduceAdd,Nat.reduceSub,Nat.reduceMul,Nat.reduceLeDiff,Int.reduceEq,Nat.reduceEqDiff,zy,zI,zB,zA,zH,zM,zaE]
    refine zam (by kernel_rfl) zaM [(0,0),(1,0),(2,0),(3,0),(4,1)] (by kernel_rfl) rfl (by kernel_rfl) ?_
    simp only [q2,heT,za,Value.cells,Value.oneCell',Nat.reduceAdd,Nat.reduceSub,Nat.reduceMul,Nat.reduceLeDiff,Int.reduceEq,Nat.reduceEqDiff,zy,zI,zB,zA,zH,zM,zx,zaE]
    have hTle:T.length≤all+1:=by omega
    refine zlT _ (best158 aT T.length cT T h1 OT2.row rfl hT0 OT2.cap (by omega)) ?_
    obtain⟨tb,htb⟩:∃ tb,tb=bstH T:=⟨_,rfl⟩
    have htm:tb∈T:=by rw [htb]; exact bstH_mem hT0
    have htn:tb.2.1=best:=by
      obtain⟨u,hu,e⟩:=hTb
      have h1:=bstH_ge hu
      have h2:=(hT tb htm).2
      rw [← htb] at h1
      omega
    have hmost:=L.fin hbit
    have hb0:=LS.zlu hmost hz h0'
    obtain⟨ps,p1,p2,p3⟩:∃ ps:List Nat,tb.2.1=ps.length∧OwnV 0 h1 162 1 tb.1 tb.2.1 tb.2.2 (ints (nz ps))∧LS.Pt (LS.zero l A) all ps:=by
      rcases (hT tb htm).1 with e | hh
      · rw [e] at htn
        exact absurd htn.symm hb0
      · exact hh
    rw [← htb]
    simp only [hdV,q2,zW,za,Value.cells,Value.oneCell',Nat.reduceAdd,Nat.reduceSub,Nat.reduceMul,Nat.reduceLeDiff,Int.reduceEq,Nat.reduceEqDiff,zy,zI,zB,zA,zH,zM,zx,zaE]
    refine map_putT Tryz.underlying165 zdP F2.map (a:=all) (v:=.slice tb.1 tb.2.1 tb.2.2) (by rfl) (by rfl) (by rfl) fun h3 M3 u3=>?_
    have hfl:fb<h.size:=ifb
    have q3:h3[h.size]?=some (.cells #[.int .i64 (all:Nat)] 162):=u3.get q2 (by omega)
    simp only [q3,zW,za,Value.cells,Value.oneCell',Nat.reduceAdd,Nat.reduceSub,Nat.reduceMul,Nat.reduceLeDiff,Int.reduceEq,Nat.reduceEqDiff,zy,zI,zB,zA,zH,zM,zx,zaE]
    refine zeo Tryz.underlying165 zhl zdP M3 (a:=all) (by rfl) (by rfl) ?_
    rw [zdd,if_pos rfl]
    simp only [Option.getD_some,Bool.false_eq_true,if_false,za,Value.cells,Value.oneCell',Nat.reduceAdd,Nat.reduceSub,Nat.reduceMul,Nat.reduceLeDiff,Int.reduceEq,Nat.reduceEqDiff,zy,zI,zB,zA,zH,zM,zaE]
    have cu:Chg h1 h3 fb:=(Chg.refl h1 fb).upd u3
    have P3:=zhi p2 F2.map.obj cu
    refine⟨⟨tb.1,tb.2.1,tb.2.2,ps,rfl,p1,P3,p3,by rw [htn]; exact hmost⟩,(Chg.of_ext x0 fb).trans (c1.trans cu),_,_,⟨M3,fun s v hv=>?_⟩⟩
    rw [zdd] at hv
    split at hv
    · rename_i e
      subst e
      cases hv
      exact⟨tb.1,tb.2.1,tb.2.2,ps,rfl,p1,P3,p3,by rw [htn]; exact hmost⟩
    · obtain⟨a,n,c,qs,k1,k2,k3,k4,k5⟩:=F2.val s v hv
      exact⟨a,n,c,qs,k1,k2,zhi k3 F2.map.obj cu,k4,k5⟩
end Go.Proofs.YtepaekbjoombpaaGreatDoor
end
section
namespace Go.Proofs.YtepaekbjoombpaaGreatDoor
open Go Go.Proofs Go.Eng Go.Run Tab
set_option maxRecDepth 100000
set_option linter.unusedSimpArgs false
set_option linter.unusedVariables false
set_option linter.defProp false
set_option maxHeartbeats 4000000
set_option linter.defProp false
def zjq:=(And.intro @Tryz.underlying3 (And.intro @Tryz.underlying73 @Tryz.underlying196))
def zoG:=(And.intro (And.intro @agg3 @by3) (And.intro @inf3 (And.intro @sz3 @Tryz.underlying40)))
def zjT:=(And.intro (And.intro @zcq @by40) (And.intro @zbW (And.intro @sz40 @Tryz.underlying73)))
def zoP:=(And.intro @Tryz.underlying196 @Tryz.underlying227)
def zbf:=(And.intro (And.intro @zcq @by40) (And.intro @zbW (And.intro @sz40 @Tryz.underlying73)))
def zod:=(And.intro (And.intro @Tryz.underlying3 @Tryz.underlying5) (And.intro @Tryz.underlying9 @Tryz.underlying205))
theorem cmp129 (a b:Option Addr)(n c m d:Nat)(x y:Int)(h:Eng.Heap)(hx:zT h (eltP a 0)=some (.int .i64 x))(hy:zT h (eltP b 0)=some (.int .i64 y))(hn:0<n)(hm:0<m)(ha:a.isSome=true)(hb:b.isSome=true)(hxb:0≤x∧x≤100)(hyb:0≤y∧y≤100) :
    zb Tryz.prog 129 #[.slice a n c,.slice b m d] h (fun v h'=>v=.int .i64 (x - y)∧h'=h):=by
  (refine ze Tryz.func129 rfl bod129 ?_; simp only [Tryz.ntmps129,Tryz.results129,za,zh,splice,Value.cells,Value.oneCell',Nat.reduceAdd,Nat.reduceSub,Nat.reduceMul,Nat.reduceLeDiff,Int.reduceEq,Nat.reduceEqDiff,zoG])
  refine zam (by kernel_rfl) zaM [(0,0),(1,0),(2,0),(3,0),(4,0),(5,0),(6,0),(7,0)] (by kernel_rfl) rfl (by kernel_rfl) ?_
  have z0:((0:Int)).toNat=0:=rfl
  simp only [z0,hx,hy,zW,za,Value.cells,Value.oneCell',Nat.reduceAdd,Nat.reduceSub,Nat.reduceMul,Nat.reduceLeDiff,Int.reduceEq,Nat.reduceEqDiff,zx,zoG]
  exact⟨⟨by omega,by omega⟩,ha,⟨by omega,by omega⟩,hb,by rw [zf]; omega⟩
theorem len193 (n:Nat)(hn:n<256)(h:Eng.Heap):zb Tryz.prog 193 #[.int .u64 n] h (fun v h'=>(∃ r:Int,v=.int .i64 r)∧h'=h):=by
  have t1:¬ (4294967296:Int)≤(n:Int):=by omega
  have t2:¬ (65536:Int)≤(n:Int):=by omega
  have t3:¬ (256:Int)≤(n:Int):=by omega
  have key:∀ b:UInt8,InK .i64 ((b.toNat:Nat):Int)∧InK .i64 (0+((b.toNat:Nat):Int)):=fun b=>by
    have:=b.toNat_lt
    rw [zf,zf]; omega
  (refine ze Tryz.func193 rfl bod193 ?_; simp only [Tryz.ntmps193,Tryz.results193,za,zh,splice,Value.cells,Value.oneCell',Nat.reduceAdd,Nat.reduceSub,Nat.reduceMul,Nat.reduceLeDiff,Int.reduceEq,Nat.reduceEqDiff,zod])
  simp only [t1,t2,t3,decide_false,za,Value.cells,Value.oneCell',Nat.reduceAdd,Nat.reduceSub,Nat.reduceMul,Nat.reduceLeDiff,Int.reduceEq,Nat.reduceEqDiff,zod]
  refine⟨by simp [InK,IntKind.min,IntKind.max,IntKind.signed,IntKind.bits]; omega,⟨by omega,?_⟩,(key _).1,(key _).2,_,rfl⟩
  show (n:Int)<((256:Nat):Int)
  omega
theorem len161 (n:Nat)(hn:n<256)(h:Eng.Heap):zb Tryz.prog 161 #[.int .u64 n] h (fun v h'=>(∃ r:Int,v=.int .i64 r)∧h'=h):=by
  (refine ze Tryz.func161 rfl bod161 ?_; simp only [Tryz.ntmps161,Tryz.results161,za,zh,splice,Value.cells,Value.oneCell',Nat.reduceAdd,Nat.reduceSub,Nat.reduceMul,Nat.reduceLeDiff,Int.reduceEq,Nat.reduceEqDiff,zoP])
  refine zb.mono (len193 n hn h) ?_
  rintro v h1 ⟨⟨r,rfl⟩,rfl⟩
  simp only [za,Value.cells,Value.oneCell',Nat.reduceAdd,Nat.reduceSub,Nat.reduceMul,Nat.reduceLeDiff,Int.reduceEq,Nat.reduceEqDiff,zoP]
  exact⟨r,rfl⟩
theorem ins184 (g c n:Nat)(Kf:Hd→Int)(T0:List Hd)(tl:List Value)(h:Eng.Heap)(hb:h[g]?=some (.cells (hdsV T0++tl).toArray 40 (0,0)))(hn:n=T0.length)(hn1:n≤100)
    (hK:∀ u,u∈T0→0<u.2.1∧u.1.isSome=true∧(0≤Kf u∧Kf u≤100)∧∀ h',Upd h h' g→zT h' (eltP u.1 0)=some (.int .i64 (Kf u))) :
    zb Tryz.prog 184 #[.slice (some ⟨g,0,none⟩) n c,.int .i64 0,.int .i64 n,.func (.func 129) #[] #[]] h (fun v h'=>Upd h h' g∧∃ T:List Hd,T.Perm T0∧T.Pairwise (fun u w=>Kf u≤Kf w)∧h'[g]?=some (.cells (hdsV T++tl).toArray 40 (0,0))):=by
  have cel:∀ {h':Eng.Heap} {T:List Hd} (j:Nat) (hj:j<T.length),h'[g]?=some (.cells (hdsV T++tl).toArray 40 (0,0))→zT h' (eltP (some ⟨g,0,none⟩) j)=some (.slice T[j].1 T[j].2.1 T[j].2.2):=fun {h' T} j hj hh=>by
    have R:Row h' (some ⟨g,0,none⟩) (hdsV T++tl):=Row.block hh
    have:=R.cell (j:=j) (by rw [List.length_append,zF]; omega)
    rw [this]
    rw [List.getElem_append_left (by rw [zF]; exact hj)]
    simp [hdsV,hdV]
  (refine ze Tryz.func184 rfl bod184 ?_; simp only [Tryz.ntmps184,Tryz.results184,za,zh,splice,Value.cells,Value.oneCell',Nat.reduceAdd,Nat.reduceSub,Nat.reduceMul,Nat.reduceLeDiff,Int.reduceEq,Nat.reduceEqDiff,zbf])
  refine⟨by rw [zf]; omega,?_⟩
  have b0:=Upd.refl h g
  have hhK:∀ {u:Hd} {T:List Hd},T.Perm T0→u∈T→0<u.2.1∧u.1.isSome=true∧(0≤Kf u∧Kf u≤100)∧∀ h',Upd h h' g→zT h' (eltP u.1 0)=some (.int .i64 (Kf u)):=fun P hu=>hK _ (P.subset hu)
  refine zo [8,9,12,13,14,15,16,17,18,19,20,21,22,23,24,25,26,27,28,29,30,31,32,33,34,35,36,37,38,39,40,41,42,43,44,45,46,47,48,49,50,51,52] (fun e h'=>Upd h h' g∧∃ i:Nat,1≤i∧(i≤n∨i=1)∧e 8=.int .i64 i∧∃ T:List Hd,T.Perm T0∧(T.take i).Pairwise (fun u w=>Kf u≤Kf w)∧h'[g]?=some (.cells (hdsV T++tl).toArray 40 (0,0))) (fun e _=>match e 8 with | .int _ q=>n - q.toNat | _=>0) ⟨b0,1,by omega,.inr rfl,rfl,T0,List.Perm.refl _,?_,hb⟩ ?_
  · cases T0 with
    | nil=>exact List.Pairwise.nil
    | cons x l=>simp
  rintro e h1 ⟨u1,i,hi1,hin,he,T,hP,hS,hb1⟩
  have hTl:T.length=n:=by rw [hn]; exact hP.length_eq
  by_cases hil:i<n
  case neg=>
    simp only [he,show ¬ ((i:Int)<(n:Int)) by omega,decide_false,za,Value.cells,Value.oneCell',Nat.reduceAdd,Nat.reduceSub,Nat.reduceMul,Nat.reduceLeDiff,Int.reduceEq,Nat.reduceEqDiff,zbf]
    refine⟨u1,T,hP,?_,hb1⟩
    rw [List.take_of_length_le (by omega)] at hS
    exact hS
  have hlt:(i:Int)<(n:Int):=by omega
  have meas:n - ((i:Int)+1).toNat<n - (i:Int).toNat:=by omega
  simp only [he,hlt,decide_true,za,Value.cells,Value.oneCell',Nat.reduceAdd,Nat.reduceSub,Nat.reduceMul,Nat.reduceLeDiff,Int.reduceEq,Nat.reduceEqDiff,zbf]
  -- the element that goes down
  obtain⟨x,hx⟩:∃ x,x=T[i]:=⟨_,rfl⟩
  have hTi:T=T.take i++x::T.drop (i+1):=by
    rw [hx]
    conv=>lhs; rw [← List.take_append_drop i T]
    rw [List.drop_eq_getElem_cons (by omega)]
  refine zo [9,18,19,20,21,22,23,24,25,26,27,28,29,30,31,32,33,34,35,36,37,38,39,40,41,42,43,44,45,46,47,48,49,50,51,52] (fun e h'=>Upd h h' g∧∃ A B:List Hd,e 9=.int .i64 A.length∧A.length+B.length=i∧(A++x::B++T.drop (i+1)).Perm T0∧(A++B).Pairwise (fun u w=>Kf u≤Kf w)∧(∀ w∈B,Kf x≤Kf w)∧h'[g]?=some (.cells (hdsV (A++x::B++T.drop (i+1))++tl).toArray 40 (0,0))) (fun e _=>match e 9 with | .int _ q=>q.toNat | _=>0) ⟨u1,T.take i,[],by rw [List.length_take,Nat.min_eq_left (by omega)]; rfl,by rw [List.length_take,Nat.min_eq_left (by omega)]; simp,by simpa [← hTi] using hP,by simpa using hS,by simp,by simpa [← hTi] using hb1⟩ ?_
  rintro e2 h2 ⟨u2,A,B,he9,hAB,hP2,hS2,hB2,hb2⟩
  have hxm:x∈A++x::B++T.drop (i+1):=by simp
  have hl2:(A++x::B++T.drop (i+1)).length=n:=by rw [hn]; exact hP2.length_eq
  have nxt:(A++B).Pairwise (fun u w=>Kf u≤Kf w)→(∀ u∈A,Kf u≤Kf x)→((A++x::B++T.drop (i+1)).take (i+1)).Pairwise (fun u w=>Kf u≤Kf w):=fun hp ha=>by
    have e1:(A++x::B++T.drop (i+1)).take (i+1)=A++x::B:=by
      rw [List.take_append_of_le_length (by simp; omega),List.take_of_length_le (by simp; omega)]
    rw [e1,List.pairwise_append]
    rw [List.pairwise_append] at hp
    refine⟨hp.1,List.pairwise_cons.2 ⟨hB2,hp.2.1⟩,fun u hu w hw=>?_⟩
    rcases List.mem_cons.1 hw with rfl | hw
    · exact ha u hu
    · exact hp.2.2 u hu w hw
  by_cases hA0:A.length=0
  · have hA:A=[]:=List.eq_nil_of_length_eq_zero hA0
    have hz:((A.length:Nat):Int)=0:=by omega
    simp only [he9,hz,show ¬ ((0:Int)<0) by decide,decide_false,za,Value.cells,Value.oneCell',Nat.reduceAdd,Nat.reduceSub,Nat.reduceMul,Nat.reduceLeDiff,Int.reduceEq,Nat.reduceEqDiff,zbf]
    refine zam (by kernel_rfl) zaM [(0,0),(1,0),(2,0),(3,0),(4,0),(5,0),(6,0),(7,0),(8,0),(9,0),(10,0),(11,0),(12,0),(13,0),(14,0),(15,0),(16,0)] (by kernel_rfl) rfl (by kernel_rfl) ?_
    simp only [he9,hz,show ¬ ((0:Int)<0) by decide,decide_false,zW,za,Value.cells,Value.oneCell',Nat.reduceAdd,Nat.reduceSub,Nat.reduceMul,Nat.reduceLeDiff,Int.reduceEq,Nat.reduceEqDiff,zx,zbf]
    exact⟨by rw [zf]; omega,zi (by kernel_rfl) ⟨u2,i+1,by omega,.inl (by omega),rfl,_,hP2,nxt hS2 (by rw [hA]; simp),hb2⟩ meas⟩
  obtain⟨A',y,rfl⟩:∃ A' y,A=A'++[y]:=by
    have hne:A≠[]:=fun e=>hA0 (by rw [e]; rfl)
    exact⟨A.dropLast,A.getLast hne,(List.dropLast_concat_getLast hne).symm⟩
  obtain⟨D,hD⟩:∃ D,D=T.drop (i+1):=⟨_,rfl⟩
  rw [← hD] at hP2 hb2 hxm hl2 nxt
  have hL:A'++[y]++x::B++D=A'++y::x::(B++D):=by simp
  have hjl:(A'++[y]).length=A'.length+1:=by simp
  rw [hjl] at he9 hAB
  have hym:y∈A'++[y]++x::B++D:=by simp
  have cx:=cel (A'.length+1) (by rw [hl2]; omega) hb2
  have cy:=cel A'.length (by rw [hl2]; omega) hb2
  have gx:(A'++[y]++x::B++D)[A'.length+1]'(by rw [hl2]; omega)=x:=by
    simp only [hL]
    rw [List.getElem_append_right (by omega)]
    simp
  have gy:(A'++[y]++x::B++D)[A'.length]'(by rw [hl2]; omega)=y:=by
    simp only [hL]
    rw [List.getElem_append_right (by omega)]
    simp
  rw [gx] at cx
  rw [gy] at cy
  rw [zab,zh5,Nat.zero_add] at cx cy
  obtain⟨kx1,kx2,kx3,kx4⟩:=hhK hP2 hxm
  obtain⟨ky1,ky2,ky3,ky4⟩:=hhK hP2 hym
  have hz:(0:Int)<((A'.length+1:Nat):Int):=by omega
  have ej:((A'.length+1:Nat):Int) - 1=((A'.length:Nat):Int):=by omega
  simp only [he9,hz,decide_true,za,Value.cells,Value.oneCell',Nat.reduceAdd,Nat.reduceSub,Nat.reduceMul,Nat.reduceLeDiff,Int.reduceEq,Nat.reduceEqDiff,zbf]
  refine zam (by kernel_rfl) zaM [(0,0),(1,0),(2,0),(3,0),(4,0),(5,0),(6,0),(7,0),(8,0),(9,0),(10,0),(11,0),(12,0),(13,0),(14,0),(15,0),(16,0)] (by kernel_rfl) rfl (by kernel_rfl) ?_
  simp only [he9,hz,ej,cx,cy,decide_true,Int.toNat_natCast,zW,za,Value.cells,Value.oneCell',Nat.reduceAdd,Nat.reduceSub,Nat.reduceMul,Nat.reduceLeDiff,Int.reduceEq,Nat.reduceEqDiff,zx,zbf]
  refine⟨⟨by omega,by omega⟩,rfl,by rw [zf]; omega,⟨by omega,by omega⟩,rfl,?_⟩
  refine zlT _ (cmp129 x.1 y.1 _ _ _ _ (Kf x) (Kf y) h2 (kx4 h2 u2) (ky4 h2 u2) kx1 ky1 kx2 ky2 kx3 ky3) ?_
  by_cases hxy:Kf x - Kf y<0
  case neg=>
    simp only [hxy,decide_false,zW,za,Value.cells,Value.oneCell',Nat.reduceAdd,Nat.reduceSub,Nat.reduceMul,Nat.reduceLeDiff,Int.reduceEq,Nat.reduceEqDiff,zx,zbf]
    refine⟨by rw [zf]; omega,zi (by kernel_rfl) ⟨u2,i+1,by omega,.inl (by omega),rfl,_,hP2,nxt hS2 (fun u hu=>?_),hb2⟩ meas⟩
    rw [List.pairwise_append,List.pairwise_append] at hS2
    rcases List.mem_append.1 hu with hu | hu
    · have:=hS2.1.2.2 u hu y (by simp)
      omega
    · rw [List.mem_singleton] at hu
      rw [hu]; omega
  simp only [hxy,decide_true,zW,za,Value.cells,Value.oneCell',Nat.reduceAdd,Nat.reduceSub,Nat.reduceMul,Nat.reduceLeDiff,Int.reduceEq,Nat.reduceEqDiff,zx,zbf]
  refine zam (by kernel_rfl) zaM [(0,0),(1,0),(2,3),(3,3),(4,3),(5,0),(6,0),(7,0),(8,0),(9,0),(10,0),(11,0),(12,0),(13,0),(14,0),(15,1),(16,0),(17,1)] (by kernel_rfl) rfl (by kernel_rfl) ?_
  simp only [he9,ej,cx,cy,Int.toNat_natCast,zW,za,Value.cells,Value.oneCell',Nat.reduceAdd,Nat.reduceSub,Nat.reduceMul,Nat.reduceLeDiff,Int.reduceEq,Nat.reduceEqDiff,zx,zbf]
  refine⟨by rw [zf]; omega,by rw [zf]; omega,⟨by omega,by omega⟩,rfl,⟨by omega,by omega⟩,rfl,⟨by omega,by omega⟩,rfl,?_⟩
  have hlA:(hdsV A').length=A'.length:=zF A'
  have hV:hdsV (A'++[y]++x::B++D)++tl=hdsV A'++hdV y::hdV x::(hdsV (B++D)++tl):=by simp [hdsV]
  rw [hV] at hb2
  simp only [hb2,za,Value.cells,Value.oneCell',Nat.reduceAdd,Nat.reduceSub,Nat.reduceMul,Nat.reduceLeDiff,Int.reduceEq,Nat.reduceEqDiff,zx,zbf]
  refine zax hb2 (by simp [hlA]; omega) fun h3 g3 u3=>?_
  rw [zbn _ _ _ (by simp [hlA]),List.set_append_right _ _ (by rw [hlA]; omega)] at g3
  have ed1:A'.length+1 - (hdsV A').length=1:=by rw [hlA]; omega
  rw [ed1] at g3
  simp only [he9,ej,g3,Int.toNat_natCast,zW,za,Value.cells,Value.oneCell',Nat.reduceAdd,Nat.reduceSub,Nat.reduceMul,Nat.reduceLeDiff,Int.reduceEq,Nat.reduceEqDiff,zx,zbf]
  refine⟨⟨by omega,by omega⟩,rfl,?_⟩
  refine zax g3 (by simp [hlA]) fun h4 g4 u4=>?_
  rw [zbn _ _ _ (by simp [hlA]),List.set_append_right _ _ (by rw [hlA]; omega)] at g4
  have ed0:A'.length - (hdsV A').length=0:=by rw [hlA]; omega
  rw [ed0] at g4
  have hW:hdsV A'++(List.set (hdV y::.slice y.1 y.2.1 y.2.2::(hdsV (B++D)++tl)) 0 (.slice x.1 x.2.1 x.2.2))=hdsV (A'++x::(y::B)++D)++tl:=by
    simp [hdsV,hdV]
  rw [hW] at g4
  simp only [he9,ej,zW,za,Value.cells,Value.oneCell',Nat.reduceAdd,Nat.reduceSub,Nat.reduceMul,Nat.reduceLeDiff,Int.reduceEq,Nat.reduceEqDiff,zx,zbf]
  refine⟨by rw [zf]; omega,zi (by kernel_rfl) ⟨(u2.trans u3).trans u4,A',y::B,rfl,by simp; omega,?_,?_,?_,by rw [← hD]; exact g4⟩ ?_⟩
  · rw [← hD]
    refine List.Perm.trans ?_ hP2
    rw [hL]
    simp only [List.append_assoc,List.cons_append]
    exact List.Perm.append_left _ (List.Perm.swap _ _ _)
  · simpa using hS2
  · intro w hw
    rcases List.mem_cons.1 hw with rfl | hw
    · omega
    · exact hB2 w hw
  · show ((A'.length:Nat):Int).toNat<((A'.length+1:Nat):Int).toNat
    omega
theorem pdq160 (g c n r:Nat)(rr:Int)(Kf:Hd→Int)(T0:List Hd)(tl:List Value)(h:Eng.Heap)(hb:h[g]?=some (.cells (hdsV T0++tl).toArray 40 (0,0)))(hn:n=T0.length)(hn1:n≤12)
    (hK:∀ u,u∈T0→0<u.2.1∧u.1.isSome=true∧(0≤Kf u∧Kf u≤100)∧∀ h',Upd h h' g→zT h' (eltP u.1 0)=some (.int .i64 (Kf u))) :
    zb Tryz.prog 160 #[.slice (some ⟨g,0,none⟩) n c,.int .i64 0,.int .i64 n,.int .i64 rr,.func (.func 129) #[] #[]] h (fun v h'=>Upd h h' g∧∃ T:List Hd,T.Perm T0∧T.Pairwise (fun u w=>Kf u≤Kf w)∧h'[g]?=some (.cells (hdsV T++tl).toArray 40 (0,0))):=by
  have t1:(n:Int) - 0≤12:=by omega
  (refine ze Tryz.func160 rfl bod160 ?_; simp only [Tryz.ntmps160,Tryz.results160,za,zh,splice,Value.cells,Value.oneCell',Nat.reduceAdd,Nat.reduceSub,Nat.reduceMul,Nat.reduceLeDiff,Int.reduceEq,Nat.reduceEqDiff,zjT])
  refine zo [1,2,3,10,11,12,13,14,15,16,17,18,19,20,21,22,23,24,25,26,27,28,29,30,31,32,33,34,35,36,37,38,39,40,41,42,43,44,45,46,47,48,49,50,51,52,53,54,55,56,57,58,59,60,61,62,63,64,65,66,67,68,69,70,71,72,73,74,75,76,77,78,79,80,81,82,83,84,85,86,87,88,89,90,91,92,93,94,95,96,97,98,99,100,101,102,103,104,105,106,107,108,109,110,111,112,113,114,115,116,117,118,119,120,121,122,123,124,125,126,127,128,129,130,131,132,133,134,135,136,137,138,139,140,141,142,143,144,145,146,147] (fun e h'=>h'=h∧e 1=.int .i64 0∧e 2=.int .i64 n∧e 3=.int .i64 rr) (fun _ _=>0) ⟨rfl,rfl,rfl,rfl⟩ ?_
  rintro e h' ⟨rfl,he1,he2,he3⟩
  simp only [he1,he2,he3,t1,decide_true,za,Value.cells,Value.oneCell',Nat.reduceAdd,Nat.reduceSub,Nat.reduceMul,Nat.reduceLeDiff,Int.reduceEq,Nat.reduceEqDiff,zjT]
  refine⟨by rw [zf]; omega,?_⟩
  refine zb.mono (ins184 g c n Kf T0 tl h' hb hn (by omega) hK) ?_
  rintro v h1 hv
  simp only [za,Value.cells,Value.oneCell',Nat.reduceAdd,Nat.reduceSub,Nat.reduceMul,Nat.reduceLeDiff,Int.reduceEq,Nat.reduceEqDiff,zjT]
  exact hv
theorem znU (g c n:Nat)(Kf:Hd→Int)(T0:List Hd)(tl:List Value)(h:Eng.Heap)(hb:h[g]?=some (.cells (hdsV T0++tl).toArray 40 (0,0)))(hn:n=T0.length)(hn1:n≤12)
    (hK:∀ u,u∈T0→0<u.2.1∧u.1.isSome=true∧(0≤Kf u∧Kf u≤100)∧∀ h',Upd h h' g→zT h' (eltP u.1 0)=some (.int .i64 (Kf u))) :
    zb Tryz.prog 128 #[.slice (some ⟨g,0,none⟩) n c,.func (.func 129) #[] #[]] h (fun v h'=>Upd h h' g∧∃ T:List Hd,T.Perm T0∧T.Pairwise (fun u w=>Kf u≤Kf w)∧h'[g]?=some (.cells (hdsV T++tl).toArray 40 (0,0))):=by
  (refine ze Tryz.func128 rfl bod128 ?_; simp only [Tryz.ntmps128,Tryz.results128,za,zh,splice,Value.cells,Value.oneCell',Nat.reduceAdd,Nat.reduceSub,Nat.reduceMul,Nat.reduceLeDiff,Int.reduceEq,Nat.reduceEqDiff,zjq])
  refine⟨by rw [zoc]; omega,?_⟩
  refine zb.mono (len161 n (by omega) h) ?_
  rintro v h1 ⟨⟨r,rfl⟩,rfl⟩
  simp only [za,Value.cells,Value.oneCell',Nat.reduceAdd,Nat.reduceSub,Nat.reduceMul,Nat.reduceLeDiff,Int.reduceEq,Nat.reduceEqDiff,zjq]
  refine zb.mono (pdq160 g c n 0 r Kf T0 tl h1 hb hn hn1 hK) ?_
  rintro v h2 hv
  simp only [za,Value.cells,Value.oneCell',Nat.reduceAdd,Nat.reduceSub,Nat.reduceMul,Nat.reduceLeDiff,Int.reduceEq,Nat.reduceEqDiff,zjq]
  exact hv
end Go.Proofs.YtepaekbjoombpaaGreatDoor
end
section
set_option linter.unusedVariables false
set_option linter.unusedSimpArgs false
namespace Go.Eng
open Go Go.Run
attribute [local semireducible] zg
section maps4
variable {α:Type} [DecidableEq α] {P:Program} {h:Heap} {er:Env} {ty:TypeId}
theorem key_inj {β γ:Type}{f:β→γ}:∀ {l:List β},(l.map f).Nodup→∀ {x y},x∈l→y∈l→f x=f y→x=y
  | [],_,x,_,hx,_,_=>by cases hx
  | z::l,hn,x,y,hx,hy,he=>by
    rw [List.map_cons,List.nodup_cons] at hn
    rcases List.mem_cons.1 hx with h1 | hx <;> rcases List.mem_cons.1 hy with h2 | hy
    · rw [h1,h2]
    · exact absurd (List.mem_map.2 ⟨y,hy,by rw [← he,h1]⟩) hn.1
    · exact absurd (List.mem_map.2 ⟨x,hx,by rw [he,h2]⟩) hn.1
    · exact key_inj hn.2 hx hy he
theorem zkj {u kt vt:TypeId}{kv:α→Value}{z:Value}(hu:P.underlying u=some (.map kt vt))(hz:zR P vt=some z)(K:Keys P kt kv){b c:Nat}{es:List (α × Value × Nat)}(M:MapV kv h b es c){a:α}
    {x k:Operand} {Q:Value→Heap→Prop} (hx:ev er x=.map (some b)) (hk:ev er k=kv a)
    (H:∀ h' (w:Nat),MapV kv h' b (putA a ((getA a es).getD z) c es) (clkA a es c)→(a,(getA a es).getD z,w)∈putA a ((getA a es).getD z) c es→Upd h h' b→Q (.tuple #[(getA a es).getD z,.int .i64 w]) h'):zg P (.mapEntry u x k) ty er h Q:=by
  have hs:=ze3 (o':=.map ((putA a ((getA a es).getD z) c es).map (entM kv)).toArray (clkA a es c)) M.obj
  cases hf:zbI a es 0 with
  | none=>
    obtain⟨q1,q2,_⟩:=zcd hf
    have HQ:=H _ c (M.put hs.1) (by rw [q2]; simp) hs.2
    refine zZ rfl (.tuple #[(getA a es).getD z,.int .i64 c]) _ HQ fun W hW=>⟨{ W with heap:=W.heap.setIfInBounds b (.map ((putA a ((getA a es).getD z) c es).map (entM kv)).toArray (clkA a es c)) },?_,by rw [hW],rfl,rfl,rfl⟩
    have M1:=M.obj
    rw [← hW] at M1
    have c1:=K.check a false W
    have f1:=K.find a es W
    have g1:=MapKept.run_getObj_map (P:=P) M1
    have g2:=MapKept.run_setObj_map (P:=P) (.map ((putA a ((getA a es).getD z) c es).map (entM kv)).toArray (clkA a es c)) M1
    have hz':(zeroValue vt).run P W=.ok z W:=by
      unfold zR at hz
      cases hi:P.info? vt with
      | none=>simp [hi] at hz
      | some i=>simp only [hi,Option.bind_some] at hz; simp [zeroValue,typeInfo,hi,hz]
    have e0:(getA a es).getD z=z:=by rw [q1]; rfl
    rw [e0] at g2 ⊢
    have e1:((es.map (entM kv)).toArray.push { key:=kv a,val:=z,born:=c })=((putA a z c es).map (entM kv)).toArray:=by simp [q2,entM]
    have e2:clkA a es c=c+1:=by simp [clkA,q1]
    rw [hf] at f1
    rw [e2] at g2 ⊢
    simp only [execOp,Instr.mapEntry,hx,hk,Sem.run_bind,run_underlying hu,Result.andThen_ok,g1,c1,List.toList_toArray,f1,hz',e1,g2,Sem.run_pure,goInt]
  | some r=>
    obtain⟨j,u0⟩:=r
    obtain⟨k0,x0,h1,h2,h3,h4,h5,h6,_⟩:=zcj hf
    have h1:j=k0:=by omega
    subst h1
    have hmem:(a,(getA a es).getD z,x0.2.2)∈putA a ((getA a es).getD z) c es:=by
      rw [h6,h5]
      refine List.mem_iff_getElem?.2 ⟨j,?_⟩
      rw [List.getElem?_modify,h2]
      simp
    have HQ:=H _ x0.2.2 (M.put hs.1) hmem hs.2
    refine zZ rfl (.tuple #[(getA a es).getD z,.int .i64 x0.2.2]) _ HQ fun W hW=>⟨{ W with heap:=W.heap.setIfInBounds b (.map ((putA a ((getA a es).getD z) c es).map (entM kv)).toArray (clkA a es c)) },?_,by rw [hW],rfl,rfl,rfl⟩
    have M1:=M.obj
    rw [← hW] at M1
    have c1:=K.check a false W
    have f1:=K.find a es W
    have g1:=MapKept.run_getObj_map (P:=P) M1
    have g2:=MapKept.run_setObj_map (P:=P) (.map ((putA a ((getA a es).getD z) c es).map (entM kv)).toArray (clkA a es c)) M1
    have e0:(getA a es).getD z=u0:=by rw [h5]; rfl
    rw [e0] at g2 ⊢
    have e1:((es.map (entM kv)).toArray.modify j fun e=>{ e with key:=kv a })=((putA a u0 c es).map (entM kv)).toArray:=by
      apply Array.toList_inj.1
      rw [zbj,h6]
      apply List.ext_getElem?
      intro i
      simp only [List.toList_toArray,List.getElem?_modify,List.getElem?_map,Option.map_map]
      split
      · rename_i he
        subst he
        rw [h2]
        simp [entM,h4]
      · cases es[i]? <;> simp [entM]
    have e2:clkA a es c=c:=by simp [clkA,h5]
    have e3:((es.map (entM kv)).toArray[j]?.map (·.key)).getD (kv a)=kv a:=by simp [h2,entM,h3]
    have e4:((es.map (entM kv)).toArray[j]?.map (fun x=>(x.born:Int))).getD 0=(x0.2.2:Int):=by simp [h2,entM]
    have st:=K.stays a W
    rw [hf] at f1
    rw [e2] at g2 ⊢
    simp only [execOp,Instr.mapEntry,hx,hk,Sem.run_bind,run_underlying hu,Result.andThen_ok,g1,c1,List.toList_toArray,f1,e3,st,e1,g2,Sem.run_pure,goInt,e4]
theorem zmv {u:TypeId}{kv:α→Value}{b c:Nat}{es:List (α × Value × Nat)}(M:MapV kv h b es c){a:α}{v0 v:Value}{w:Nat}(hm:(a,v0,w)∈es)(hn:(es.map (·.1)).Nodup)
    {x k y:Operand} {Q:Value→Heap→Prop} (hx:ev er x=.map (some b)) (hk:ev er k=.int .i64 w) (hy:ev er y=v)
    (H:∀ h',MapV kv h' b (putA a v c es) c→Upd h h' b→Q undef h'):zg P (.entryStore u x k y) ty er h Q:=by
  cases hf:zbI a es 0 with
  | none=>
    obtain⟨q1,_,_⟩:=zcd hf
    rw [zd9 hn hm rfl] at q1
    cases q1
  | some r=>
    obtain⟨j,u0⟩:=r
    obtain⟨k0,x0,h1,h2,h3,h4,h5,h6,_⟩:=zcj hf
    have h1:j=k0:=by omega
    subst h1
    have hx0:x0=(a,v0,w):=key_inj hn (List.mem_of_getElem? h2) hm h3
    subst hx0
    have e2:clkA a es c=c:=by simp [clkA,h5]
    have hs:=ze3 (o':=.map ((putA a v c es).map (entM kv)).toArray (clkA a es c)) M.obj
    obtain⟨hp,hhp⟩:∃ hp,hp=h.setIfInBounds b (.map ((putA a v c es).map (entM kv)).toArray (clkA a es c)):=⟨_,rfl⟩
    rw [← hhp] at hs
    have hM:=M.put hs.1
    rw [e2] at hM
    have HQ:=H hp hM hs.2
    refine zdQ rfl _ HQ fun W hW=>⟨{ W with heap:=W.heap.setIfInBounds b (.map ((putA a v c es).map (entM kv)).toArray (clkA a es c)) },?_,by rw [hW,hhp],rfl,rfl,rfl⟩
    have M1:=M.obj
    rw [← hW] at M1
    have g1:=MapKept.run_getObj_map (P:=P) M1
    have g2:=MapKept.run_setObj_map (P:=P) (.map ((putA a v c es).map (entM kv)).toArray (clkA a es c)) M1
    have e1:((es.map (entM kv)).toArray.modify j fun e=>{ e with val:=v })=((putA a v c es).map (entM kv)).toArray:=by
      apply Array.toList_inj.1
      rw [zbj,h6]
      apply List.ext_getElem?
      intro i
      simp only [List.toList_toArray,List.getElem?_modify,List.getElem?_map,Option.map_map]
      split
      · rename_i he
        subst he
        rw [h2]
        simp [entM]
      · cases es[i]? <;> simp [entM]
    have hjl:j<es.length:=(List.getElem?_eq_some_iff.1 h2).1
    have hf':(es.map (entM kv)).toArray.findIdx? (fun e=>(e.born:Int) == (w:Int))=some j:=by
      have:∀ (a:Array MapEntry) (f:MapEntry→Bool),a.findIdx? f=a.toList.findIdx? f:=fun a f=>by cases a; simp
      rw [this,List.toList_toArray,List.findIdx?_eq_some_iff_getElem]
      refine⟨by simpa using hjl,?_,fun i hi=>?_⟩
      · have:es[j]=(a,v0,w):=by
          have:=List.getElem?_eq_getElem hjl
          rw [this] at h2
          exact Option.some.inj h2
        simp [entM,this]
      · have hb:=M.born
        rw [List.pairwise_map] at hb
        have hlt:=(List.pairwise_iff_getElem.1 hb) i j (by omega) hjl hi
        have:es[j]=(a,v0,w):=by
          have:=List.getElem?_eq_getElem hjl
          rw [this] at h2
          exact Option.some.inj h2
        rw [this] at hlt
        have hlt:es[i].2.2<w:=hlt
        simp only [List.getElem_map,entM]
        simp
        omega
    rw [e2] at g2 ⊢
    simp [execOp,Instr.entryStore,hx,hk,hy,asInt,asIntOf,g1,hf',e1,g2]
end maps4
end Go.Eng
end
section
set_option linter.unusedVariables false
set_option linter.unusedSimpArgs false
namespace Go.Eng
open Go
attribute [local semireducible] zg opQS zbh setD WP
inductive PT where
  | fin
  | quiet (i:Nat) (r:PT)
  | pure (i:Nat) (r:PT)
  | one (i:Nat) (r:PT)
  | keep (i:Nat) (r:PT)
  | fork (x y:Nat) (a b:PT)
  | fork2 (x y:Nat) (u v:Bool) (a b:PT)
  | fork3 (x y z:Nat) (u v w:Bool) (a b c:PT)
def PT.size:PT→Nat
  | .fin=>0
  | .quiet _ r | .pure _ r | .one _ r | .keep _ r=>r.size+1
  | .fork _ _ a _=>a.size+1
  | .fork2 _ _ _ _ a _=>a.size+1
  | .fork3 _ _ _ _ _ _ a _ _=>a.size+1
def PT.G:PT→Nat→Bool
  | .fin,_=>true
  | .quiet _ r,j | .pure _ r,j | .keep _ r,j=>r.G j
  | .one i r,j=>!(i == j)&&r.G j
  | .fork _ _ a b,j=>a.G j&&b.G j
  | .fork2 x y u v a b,j=>(u||!(x == j))&&((v||!(y == j))&&(a.G j&&b.G j))
  | .fork3 x y z u v w a b c,j=>(u||!(x == j))&&((v||!(y == j))&&((w||!(z == j))&&(a.G j&&(b.G j&&c.G j))))
section tree
variable {P:Program} {l:Option Nat} {R:Heap→Heap→Prop} {G:Nat→Bool}
theorem opD_any {all:List Oper}{i:Nat}{o:Oper}{e:Env}{d:List Deferred}{w1:World}{Kx:Env→Heap→Prop}{Kf:Act→World→Prop}(hi:all[i]?=some o)
    (H:zN o.guard all e (fun e=>opW P o.op o.type e w1.heap (fun v h''=>(G i=true→R w1.heap h'')∧Kx (putE e o.dst v) h'')) (fun e=>(G i=true→R w1.heap w1.heap)∧Kx (putE e o.dst undef) w1.heap)) (fin:∀ e' w',Rest w1 w'→Kx e' w'.heap→Kf ⟨e'.toArray,d⟩ w') :
    opD P all.toArray i (fun a' w'=>(G i=true→R w1.heap w'.heap)∧Rest w1 w'∧Kf a' w') ⟨e.toArray,d⟩ w1:=by
  have hi':all.toArray[i]?=some o:=by simpa using hi
  unfold opD
  simp only [hi']
  rcases zaH H o rfl with⟨hw,hA⟩ | ⟨hw,hB⟩
  · simp only [hw,if_true]
    have h1:=zw hA
    unfold zg at h1
    refine⟨h1.1,?_⟩
    have h2:=h1.2 w1 rfl
    rw [zaD,zav]
    have fin':∀ v w',Rest w1 w'→((G i=true→R w1.heap w'.heap)∧Kx (putE e o.dst v) w'.heap)→(G i=true→R w1.heap w'.heap)∧Rest w1 w'∧Kf ((Act.mk e.toArray d).put o.dst v) w':=by
      intro v w' hr' hk
      refine⟨hk.1,hr',?_⟩
      rw [zV]
      exact fin _ _ hr' hk.2
    unfold zaS at h2
    unfold za7
    split at h2
    · exact⟨fin' _ _ h2.2 h2.1,h2.2⟩
    · exact⟨fin' _ _ h2.2 h2.1,h2.2⟩
    · exact⟨h2.1,Calls.mono h2.2 fun x w'' ⟨v,hx,hv,hr''⟩=>⟨v,hx,fin' v w'' (h2.1.trans hr'') hv,hr''⟩⟩
    · exact⟨h2.1,RoundIn.mono h2.2 fun x w'' ⟨v,hx,hv,hr''⟩=>⟨v,hx,fin' v w'' (h2.1.trans hr'') hv,hr''⟩⟩
    · exact h2.elim
  · simp only [hw]
    refine⟨hB.1,Rest.refl _,?_⟩
    rw [zV]
    exact fin _ _ (Rest.refl _) hB.2
def stO (P:Program)(all:List Oper)(o:Option Oper)(e:Env)(h:Heap)(K:Env→Heap→Prop):Prop:=
  match o with
  | some o=>zN o.guard all e (fun e=>opW P o.op o.type e h (fun v h'=>K (putE e o.dst v) h')) (fun e=>K (putE e o.dst undef) h)
  | none=>False
def zG (P:Program)(R:Heap→Heap→Prop)(all:List Oper):PT→Cont→Env→List Deferred→Heap→Prop
  | .fin,k,e,d,h=>∀ h',R h h'→k .normal e d h'
  | .quiet i rest,k,e,d,h=>match all[i]? with
    | some o=>zN o.guard all e (fun e=>opQW P R o.op o.type e h (fun v h'=>zG P R all rest k (putE e o.dst v) d h')) (fun e=>zG P R all rest k (putE e o.dst undef) d h)
    | none=>False
  | .pure i rest,k,e,d,h=>match all[i]? with
    | some o=>zN o.guard all e (fun e=>opPW P o.op e h (fun v h'=>zG P R all rest k (putE e o.dst v) d h')) (fun e=>zG P R all rest k (putE e o.dst undef) d h)
    | none=>False
  | .one i rest,k,e,d,h=>∀ h',R h h'→stO P all all[i]? e h' (fun e h''=>zG P R all rest k e d h'')
  | .keep i rest,k,e,d,h=>∀ h',R h h'→stO P all all[i]? e h' (fun e h''=>R h' h''∧zG P R all rest k e d h'')
  | .fork x y a b,k,e,d,h=>∀ h',R h h'→stO P all all[x]? e h' (fun e h''=>R h' h''∧zG P R all a k e d h'')∧stO P all all[y]? e h' (fun e h''=>R h' h''∧zG P R all b k e d h'')
  | .fork2 x y u v a b,k,e,d,h=>∀ h',R h h'→stO P all all[x]? e h' (fun e h''=>(u=true→R h' h'')∧zG P R all a k e d h'')∧stO P all all[y]? e h' (fun e h''=>(v=true→R h' h'')∧zG P R all b k e d h'')
  | .fork3 x y z u v t a b c,k,e,d,h=>∀ h',R h h'→stO P all all[x]? e h' (fun e h''=>(u=true→R h' h'')∧zG P R all a k e d h'')∧stO P all all[y]? e h' (fun e h''=>(v=true→R h' h'')∧zG P R all b k e d h'')∧stO P all all[z]? e h' (fun e h''=>(t=true→R h' h'')∧zG P R all c k e d h'')
def okT (G:Nat→Bool)(all:List Oper):PT→Array Bool→Bool
  | .fin,listed=>(Region.ready .any all.toArray listed).isEmpty
  | .quiet i rest,listed=>(Region.ready .any all.toArray listed).contains i&&zgU all listed i (blk all listed i all.length 0 []) &&
      ((List.range all.length).all fun j=>j == i||listed.getD j true||(blk all listed i all.length 0 []).contains j||(G j&&(match all[i]?,all[j]? with | some oi,some oj=>oi.apart all.toArray oj | _,_=>true))) &&
      okT G all rest (listed.setIfInBounds i true)
  | .pure i rest,listed=>(Region.ready .any all.toArray listed).contains i&&zgU all listed i (blk all listed i all.length 0 []) &&
      ((List.range all.length).all fun j=>j == i||listed.getD j true||(blk all listed i all.length 0 []).contains j||(match all[i]?,all[j]? with | some oi,some oj=>oi.apart all.toArray oj | _,_=>true)) &&
      okT G all rest (listed.setIfInBounds i true)
  | .one i rest,listed=>!(G i)&&decide (Region.ready .any all.toArray listed=[i])&&okT G all rest (listed.setIfInBounds i true)
  | .keep i rest,listed=>decide (Region.ready .any all.toArray listed=[i])&&okT G all rest (listed.setIfInBounds i true)
  | .fork x y a b,listed=>decide (Region.ready .any all.toArray listed=[x,y])&&(decide (a.size=b.size)&&(okT G all a (listed.setIfInBounds x true)&&okT G all b (listed.setIfInBounds y true)))
  | .fork2 x y u v a b,listed=>(u||!(G x))&&((v||!(G y))&&(decide (Region.ready .any all.toArray listed=[x,y])&&(decide (a.size=b.size)&&(okT G all a (listed.setIfInBounds x true)&&okT G all b (listed.setIfInBounds y true)))))
  | .fork3 x y z u v t a b c,listed=>(u||!(G x))&&((v||!(G y))&&((t||!(G z))&&(decide (Region.ready .any all.toArray listed=[x,y,z])&&(decide (a.size=b.size)&&(decide (a.size=c.size)&&(okT G all a (listed.setIfInBounds x true)&&(okT G all b (listed.setIfInBounds y true)&&okT G all c (listed.setIfInBounds z true))))))))
theorem zau {all:List Oper}{i:Nat}{e:Env}{d:List Deferred}{w1:World}{Kx:Env→Heap→Prop}{Kf:Act→World→Prop}(H:stO P all all[i]? e w1.heap (fun e h''=>(G i=true→R w1.heap h'')∧Kx e h''))(fin:∀ e' w',Rest w1 w'→Kx e' w'.heap→Kf ⟨e'.toArray,d⟩ w') :
    opD P all.toArray i (fun a' w'=>(G i=true→R w1.heap w'.heap)∧Rest w1 w'∧Kf a' w') ⟨e.toArray,d⟩ w1:=by
  cases hi:all[i]? with
  | none=>rw [hi] at H; exact H.elim
  | some o=>rw [hi] at H; exact opD_any (Kx:=Kx) hi H fin
theorem zna {gd:Option (Nat × Bool)}{all:List Oper}{e:Env}{A A' B B':Env→Prop}(ha:∀ e,A e→A' e)(hb:∀ e,B e→B' e)(H:zN gd all e A B):zN gd all e A' B':=by
  cases gd with
  | none=>unfold zN at H ⊢; exact ha _ H
  | some p=>
    obtain⟨j,want⟩:=p
    unfold zN at H ⊢
    simp only at H ⊢
    cases hj:zaR all j with
    | none=>simp only [hj] at H ⊢; exact hb _ H
    | some t=>
      simp only [hj] at H ⊢
      unfold zC at H ⊢
      cases hv:e.getD t undef with
      | bool b=>
        simp only [hv] at H ⊢
        refine⟨fun h1=>?_,fun h1=>?_⟩
        · have h2:=H.1 h1
          by_cases hw:true=want
          · rw [if_pos hw] at h2 ⊢; exact ha _ h2
          · rw [if_neg hw] at h2 ⊢; exact hb _ h2
        · have h2:=H.2 h1
          by_cases hw:false=want
          · rw [if_pos hw] at h2 ⊢; exact ha _ h2
          · rw [if_neg hw] at h2 ⊢; exact hb _ h2
      | _=>first | (simp only [hv] at H ⊢; done) | (simp only [hv] at H ⊢; exact hb _ H)
theorem zaN {all:List Oper}{o:Option Oper}{e:Env}{h:Heap}{K K':Env→Heap→Prop}(H:stO P all o e h K)(hk:∀ e h,K e h→K' e h):stO P all o e h K':=by
  cases o with
  | none=>exact H.elim
  | some o=>exact zna (fun e he=>zh4 (fun v h hv=>hk _ _ hv) he) (fun e he=>hk _ _ he) H
theorem zaj (hS:Sta R){all:List Oper}{k:Cont}{w0:World}(hsel:Region.noSelect all.toArray=true):∀ (t:PT) (listed:Array Bool) (e:Env) (d:List Deferred) (w:World),Rest w0 w →
    okT G all t listed=true→zG P R all t k e d w.heap →
    anyR P all.toArray R G (fun a w'=>k .normal a.tmps.toList a.defers w'.heap∧Rest w0 w') t.size listed ⟨e.toArray,d⟩ w
  | .fin,listed,e,d,w,hr,hok,H=>fun w1 hr1 hR1=>by
    refine⟨by simpa [okT] using hok,?_,hr.trans hr1⟩
    simpa using H _ hR1
  | .quiet i rest,listed,e,d,w,hr,hok,H=>by
    simp only [okT,Bool.and_eq_true] at hok
    obtain⟨⟨⟨hready,hbk⟩,hG⟩,hok⟩:=hok
    unfold zG at H
    cases hi:all[i]? with
    | none=>simp [hi] at H
    | some o=>
      simp only [hi] at H
      have hi':all.toArray[i]?=some o:=by simpa using hi
      obtain⟨Bk,hBke⟩:∃ Bk,Bk=blk all listed i all.length 0 []:=⟨_,rfl⟩
      rw [← hBke] at hbk hG
      have hb1:∀ j∈Bk,listed.getD j true=false:=fun j hj=>by
        have:=List.all_eq_true.1 hbk j hj
        simp only [Bool.and_eq_true,Bool.not_eq_true'] at this
        exact this.1.1
      have hb2:∀ j∈Bk,j≠i∧∀ oj,all.toArray[j]?=some oj→∃ e∈oj.after,Region.binds .any e=true∧(e.on=i∨e.on∈Bk):=fun j hj=>by
        have:=List.all_eq_true.1 hbk j hj
        simp only [Bool.and_eq_true,bne_iff_ne,ne_eq] at this
        refine⟨this.1.2,fun oj hoj=>?_⟩
        have hj2:all[j]?=some oj:=by simpa using hoj
        have h2:=this.2
        rw [hj2] at h2
        obtain⟨e,he,hb⟩:=Array.any_eq_true'.1 h2
        simp only [Bool.and_eq_true,Bool.or_eq_true,beq_iff_eq,List.contains_eq_mem,decide_eq_true_eq] at hb
        exact⟨e,he,hb.1,hb.2⟩
      have hfr:∀ j oj,all.toArray[j]?=some oj→j≠i→listed.getD j true=false→j ∉ Bk→o.apart all.toArray oj=true∧G j=true:=by
        intro j oj hj hne hun hno
        have hlt:j<all.length:=by have:=(Array.getElem?_eq_some_iff.1 hj).1; simpa using this
        have:=List.all_eq_true.1 hG j (List.mem_range.2 hlt)
        have hj2:all[j]?=some oj:=by simpa using hj
        simp only [hi,hj2,Bool.or_eq_true,Bool.and_eq_true,beq_iff_eq,hne,false_or,hun,Bool.false_eq_true,List.contains_eq_mem,decide_eq_true_eq,hno] at this
        exact⟨this.2,this.1⟩
      have hrdy:i∈Region.ready .any all.toArray listed:=by simpa using hready
      rcases zaH H o rfl with⟨hw,hA⟩ | ⟨hw,hB⟩
      · have hq:=ziX hS hA
        unfold opQS at hq
        obtain⟨v,hv,hk⟩:=hq
        refine zdC hS hi' (Region.noSelect_spec hsel) Bk hb2 rest.size listed _ w hfr hb1 hrdy (v:=v) ?_ ?_
        · refine .inl ⟨hw,fun w' hr' hR'=>?_⟩
          have h1:=hv _ hR'
          refine⟨h1.1,?_⟩
          have h2:=h1.2 w' rfl
          rw [zaD,zav]
          unfold zaS at h2
          unfold za7
          split at h2
          · exact h2
          · exact h2
          · exact h2
          · exact h2
          · exact h2.elim
        · rw [zV]
          exact zaj hS hsel rest _ _ d w hr hok hk
      · refine zdC hS hi' (Region.noSelect_spec hsel) Bk hb2 rest.size listed _ w hfr hb1 hrdy (v:=undef) (.inr ⟨hw,rfl⟩) ?_
        rw [zV]
        exact zaj hS hsel rest _ _ d w hr hok hB
  | .pure i rest,listed,e,d,w,hr,hok,H=>by
    simp only [okT,Bool.and_eq_true] at hok
    obtain⟨⟨⟨hready,hbk⟩,hG⟩,hok⟩:=hok
    unfold zG at H
    cases hi:all[i]? with
    | none=>simp [hi] at H
    | some o=>
      simp only [hi] at H
      have hi':all.toArray[i]?=some o:=by simpa using hi
      obtain⟨Bk,hBke⟩:∃ Bk,Bk=blk all listed i all.length 0 []:=⟨_,rfl⟩
      rw [← hBke] at hbk hG
      have hb1:∀ j∈Bk,listed.getD j true=false:=fun j hj=>by
        have:=List.all_eq_true.1 hbk j hj
        simp only [Bool.and_eq_true,Bool.not_eq_true'] at this
        exact this.1.1
      have hb2:∀ j∈Bk,j≠i∧∀ oj,all.toArray[j]?=some oj→∃ e∈oj.after,Region.binds .any e=true∧(e.on=i∨e.on∈Bk):=fun j hj=>by
        have:=List.all_eq_true.1 hbk j hj
        simp only [Bool.and_eq_true,bne_iff_ne,ne_eq] at this
        refine⟨this.1.2,fun oj hoj=>?_⟩
        have hj2:all[j]?=some oj:=by simpa using hoj
        have h2:=this.2
        rw [hj2] at h2
        obtain⟨e,he,hb⟩:=Array.any_eq_true'.1 h2
        simp only [Bool.and_eq_true,Bool.or_eq_true,beq_iff_eq,List.contains_eq_mem,decide_eq_true_eq] at hb
        exact⟨e,he,hb.1,hb.2⟩
      have hfr:∀ j oj,all.toArray[j]?=some oj→j≠i→listed.getD j true=false→j ∉ Bk→o.apart all.toArray oj=true:=by
        intro j oj hj hne hun hno
        have hlt:j<all.length:=by have:=(Array.getElem?_eq_some_iff.1 hj).1; simpa using this
        have:=List.all_eq_true.1 hG j (List.mem_range.2 hlt)
        have hj2:all[j]?=some oj:=by simpa using hj
        simp only [hi,hj2,Bool.or_eq_true,Bool.and_eq_true,beq_iff_eq,hne,false_or,hun,Bool.false_eq_true,List.contains_eq_mem,decide_eq_true_eq,hno] at this
        exact this
      have hrdy:i∈Region.ready .any all.toArray listed:=by simpa using hready
      rcases zaH H o rfl with⟨hw,hA⟩ | ⟨hw,hB⟩
      · obtain⟨hd,v,hk,hv⟩:=zfo (ty:=o.type) hA
        refine zdk hS hi' (Region.noSelect_spec hsel) Bk hb2 rest.size listed _ w hfr hb1 hrdy (v:=v) ?_ ?_
        · refine .inl ⟨hw,fun w' hr'=>⟨hd,?_⟩⟩
          rw [zaD,zav,hv w']
          exact⟨⟨rfl,rfl⟩,Rest.refl _⟩
        · rw [zV]
          exact zaj hS hsel rest _ _ d w hr hok hk
      · refine zdk hS hi' (Region.noSelect_spec hsel) Bk hb2 rest.size listed _ w hfr hb1 hrdy (v:=undef) (.inr ⟨hw,rfl⟩) ?_
        rw [zV]
        exact zaj hS hsel rest _ _ d w hr hok hB
  | .one i rest,listed,e,d,w,hr,hok,H=>by
    intro w1 hr1 hR1
    simp only [okT,Bool.and_eq_true,decide_eq_true_eq,Bool.not_eq_true'] at hok
    obtain⟨⟨hG,h1⟩,hok⟩:=hok
    rw [h1]
    refine⟨fun h=>by simp at h,fun q hq=>?_⟩
    have hq:q=i:=by simpa using hq
    subst hq
    refine zau (Kx:=fun e h''=>zG P R all rest k e d h'') (zaN (H _ hR1) fun e h hk=>⟨fun hh=>(by rw [hG] at hh; cases hh),hk⟩) fun e2 w2 hr2 K2=>?_
    exact zaj hS hsel rest _ _ d w2 (hr.trans (hr1.trans hr2)) hok K2
  | .keep i rest,listed,e,d,w,hr,hok,H=>by
    intro w1 hr1 hR1
    simp only [okT,Bool.and_eq_true,decide_eq_true_eq] at hok
    obtain⟨h1,hok⟩:=hok
    rw [h1]
    refine⟨fun h=>by simp at h,fun q hq=>?_⟩
    have hq:q=i:=by simpa using hq
    subst hq
    refine zau (Kx:=fun e h''=>zG P R all rest k e d h'') (zaN (H _ hR1) fun e h hk=>⟨fun _=>hk.1,hk.2⟩) fun e2 w2 hr2 K2=>?_
    exact zaj hS hsel rest _ _ d w2 (hr.trans (hr1.trans hr2)) hok K2
  | .fork x y a b,listed,e,d,w,hr,hok,H=>by
    intro w1 hr1 hR1
    simp only [okT,Bool.and_eq_true,decide_eq_true_eq] at hok
    obtain⟨h1,h2,o1,o2⟩:=hok
    obtain⟨A,B⟩:=H _ hR1
    rw [h1]
    refine⟨fun h=>by simp at h,fun q hq=>?_⟩
    have hq:q=x∨q=y:=by simpa using hq
    rcases hq with rfl | rfl
    · refine zau (Kx:=fun e h''=>zG P R all a k e d h'') (zaN A fun e h hk=>⟨fun _=>hk.1,hk.2⟩) fun e2 w2 hr2 K2=>?_
      exact zaj hS hsel a _ _ d w2 (hr.trans (hr1.trans hr2)) o1 K2
    · refine zau (Kx:=fun e h''=>zG P R all b k e d h'') (zaN B fun e h hk=>⟨fun _=>hk.1,hk.2⟩) fun e2 w2 hr2 K2=>?_
      have:=zaj (w0:=w0) hS hsel b _ _ d w2 (hr.trans (hr1.trans hr2)) o2 K2
      rw [← h2] at this
      exact this
  | .fork2 x y u v a b,listed,e,d,w,hr,hok,H=>by
    intro w1 hr1 hR1
    simp only [okT,Bool.and_eq_true,decide_eq_true_eq,Bool.or_eq_true,Bool.not_eq_true'] at hok
    obtain⟨gx,gy,h1,h2,o1,o2⟩:=hok
    obtain⟨A,B⟩:=H _ hR1
    rw [h1]
    refine⟨fun h=>by simp at h,fun q hq=>?_⟩
    have hq:q=x∨q=y:=by simpa using hq
    rcases hq with rfl | rfl
    · refine zau (Kx:=fun e h''=>zG P R all a k e d h'') (zaN A fun e h hk=>⟨fun hh=>hk.1 (gx.resolve_right (by rw [hh]; decide)),hk.2⟩) fun e2 w2 hr2 K2=>?_
      exact zaj hS hsel a _ _ d w2 (hr.trans (hr1.trans hr2)) o1 K2
    · refine zau (Kx:=fun e h''=>zG P R all b k e d h'') (zaN B fun e h hk=>⟨fun hh=>hk.1 (gy.resolve_right (by rw [hh]; decide)),hk.2⟩) fun e2 w2 hr2 K2=>?_
      have:=zaj (w0:=w0) hS hsel b _ _ d w2 (hr.trans (hr1.trans hr2)) o2 K2
      rw [← h2] at this
      exact this
  | .fork3 x y z u v t a b c,listed,e,d,w,hr,hok,H=>by
    intro w1 hr1 hR1
    simp only [okT,Bool.and_eq_true,decide_eq_true_eq,Bool.or_eq_true,Bool.not_eq_true'] at hok
    obtain⟨gx,gy,gz,h1,h2,h3,o1,o2,o3⟩:=hok
    obtain⟨A,B,C⟩:=H _ hR1
    rw [h1]
    refine⟨fun h=>by simp at h,fun q hq=>?_⟩
    have hq:q=x∨q=y∨q=z:=by simpa using hq
    rcases hq with rfl | rfl | rfl
    · refine zau (Kx:=fun e h''=>zG P R all a k e d h'') (zaN A fun e h hk=>⟨fun hh=>hk.1 (gx.resolve_right (by rw [hh]; decide)),hk.2⟩) fun e2 w2 hr2 K2=>?_
      exact zaj hS hsel a _ _ d w2 (hr.trans (hr1.trans hr2)) o1 K2
    · refine zau (Kx:=fun e h''=>zG P R all b k e d h'') (zaN B fun e h hk=>⟨fun hh=>hk.1 (gy.resolve_right (by rw [hh]; decide)),hk.2⟩) fun e2 w2 hr2 K2=>?_
      have:=zaj (w0:=w0) hS hsel b _ _ d w2 (hr.trans (hr1.trans hr2)) o2 K2
      rw [← h2] at this
      exact this
    · refine zau (Kx:=fun e h''=>zG P R all c k e d h'') (zaN C fun e h hk=>⟨fun hh=>hk.1 (gz.resolve_right (by rw [hh]; decide)),hk.2⟩) fun e2 w2 hr2 K2=>?_
      have:=zaj (w0:=w0) hS hsel c _ _ d w2 (hr.trans (hr1.trans hr2)) o3 K2
      rw [← h3] at this
      exact this
theorem zoe (hm:P.follows .mixedOrders=true)(hS:Sta R){id:Nat}{all:List Oper}{k:Cont}{e:Env}{d:List Deferred}{h:Heap}(t:PT)
    (hsel:Region.noSelect all.toArray=true) (hlen:t.size=all.length) (hok:okT t.G all t (Array.replicate all.length false)=true)
    (H:zG P R all t k e d h):WP l P (.region id all.toArray true) k e d h:=by
  unfold WP
  intro w hw
  subst hw
  refine wpIn_region_any hm ?_
  have h1:=zaj (w0:=w) (G:=t.G) hS hsel t _ e d { w with drawn:=w.drawn+1 } ⟨rfl,rfl,rfl⟩ hok H
  rw [hlen] at h1
  have h2:=zdz (l:=l) (Q':=fun x a w'=>k x a.tmps.toList a.defers w'.heap∧Rest w w') hS (fun a w' hq=>hq) _ _ _ _ h1
  simpa using h2
variable {all:List Oper} {rest:PT} {k:Cont} {e:Env} {d:List Deferred} {h:Heap} {dst:Option Tmp} {op:Op} {ty:TypeId} {pos:String} {after:Array Edge} {i x y:Nat} {a b:PT}
def setT (P:Program)(R:Heap→Heap→Prop)(all:List Oper)(rest:PT)(k:Cont)(dst:Option Tmp)(e:Env)(d:List Deferred):Value→Heap→Prop:=fun v h=>zG P R all rest k (putE e dst v) d h
theorem setT_eq {v:Value}:setT P R all rest k dst e d v h=zG P R all rest k (putE e dst v) d h:=eqi rfl
def stT (P:Program)(R:Heap→Heap→Prop)(o:Option Oper)(all:List Oper)(rest:PT)(k:Cont)(e:Env)(d:List Deferred)(h:Heap):Prop:=
  match o with
  | some o=>zN o.guard all e (fun e=>opQW P R o.op o.type e h (fun v h'=>setT P R all rest k o.dst e d v h')) (fun e=>zG P R all rest k (putE e o.dst undef) d h)
  | none=>False
theorem znO:zG P R all (.quiet i rest) k e d h=stT P R all[i]? all rest k e d h:=by simp only [zG,stT,setT]
theorem zqu:stT P R (some ⟨dst,op,ty,pos,after,none⟩) all rest k e d h=opQW P R op ty e h (setT P R all rest k dst e d):=by simp only [stT,zN]
def stTp (P:Program)(R:Heap→Heap→Prop)(o:Option Oper)(all:List Oper)(rest:PT)(k:Cont)(e:Env)(d:List Deferred)(h:Heap):Prop:=
  match o with
  | some o=>zN o.guard all e (fun e=>opPW P o.op e h (fun v h'=>setT P R all rest k o.dst e d v h')) (fun e=>zG P R all rest k (putE e o.dst undef) d h)
  | none=>False
theorem zpA:zG P R all (.pure i rest) k e d h=stTp P R all[i]? all rest k e d h:=by simp only [zG,stTp,setT]
theorem zqa:stTp P R (some ⟨dst,op,ty,pos,after,none⟩) all rest k e d h=opPW P op e h (setT P R all rest k dst e d):=by simp only [stTp,zN]
theorem zqz {K:Env→Heap→Prop}:stO P all (some ⟨dst,op,ty,pos,after,none⟩) e h K=opW P op ty e h (fun v h'=>K (putE e dst v) h'):=by simp only [stO,zN]
def gtT (P:Program)(R:Heap→Heap→Prop)(v:Value)(s:Tmp)(want:Bool)(op:Op)(ty:TypeId)(all:List Oper)(rest:PT)(k:Cont)(dst:Option Tmp)(e:Env)(d:List Deferred)(h:Heap):Prop:=
  zC v (fun b=>if b=want then opQW P R op ty (e.set s (.bool b)) h (setT P R all rest k dst (e.set s (.bool b)) d) else zG P R all rest k (putE (e.set s (.bool b)) dst undef) d h) (zG P R all rest k (putE e dst undef) d h)
def gtTo (P:Program)(R:Heap→Heap→Prop)(s:Option Tmp)(want:Bool)(op:Op)(ty:TypeId)(all:List Oper)(rest:PT)(k:Cont)(dst:Option Tmp)(e:Env)(d:List Deferred)(h:Heap):Prop:=
  match s with | some s=>gtT P R (e.getD s undef) s want op ty all rest k dst e d h | none=>zG P R all rest k (putE e dst undef) d h
theorem zr5 {j:Nat}{want:Bool}:stT P R (some ⟨dst,op,ty,pos,after,some (j,want)⟩) all rest k e d h=gtTo P R (zaR all j) want op ty all rest k dst e d h:=by
  simp only [stT,zN,gtTo]; cases zaR all j <;> rfl
theorem zqy {s:Tmp}{want:Bool}:gtTo P R (some s) want op ty all rest k dst e d h=gtT P R (e.getD s undef) s want op ty all rest k dst e d h:=eqi rfl
theorem gtT_tt {s:Tmp}:gtT P R (.bool true) s true op ty all rest k dst e d h=opQW P R op ty (e.set s (.bool true)) h (setT P R all rest k dst (e.set s (.bool true)) d):=by simp [gtT,zC]
theorem gtT_ff {s:Tmp}:gtT P R (.bool false) s false op ty all rest k dst e d h=opQW P R op ty (e.set s (.bool false)) h (setT P R all rest k dst (e.set s (.bool false)) d):=by simp [gtT,zC]
theorem gtT_tf {s:Tmp}:gtT P R (.bool true) s false op ty all rest k dst e d h=zG P R all rest k (putE (e.set s (.bool true)) dst undef) d h:=by simp [gtT,zC]
theorem gtT_ft {s:Tmp}:gtT P R (.bool false) s true op ty all rest k dst e d h=zG P R all rest k (putE (e.set s (.bool false)) dst undef) d h:=by simp [gtT,zC]
theorem zrM {s:Tmp}{w:Bool}{vs:Array Value}:gtT P R (.tuple vs) s w op ty all rest k dst e d h=zG P R all rest k (putE e dst undef) d h:=by simp [gtT,zC]
def gtP (P:Program)(R:Heap→Heap→Prop)(v:Value)(s:Tmp)(want:Bool)(op:Op)(all:List Oper)(rest:PT)(k:Cont)(dst:Option Tmp)(e:Env)(d:List Deferred)(h:Heap):Prop:=
  zC v (fun b=>if b=want then opPW P op (e.set s (.bool b)) h (setT P R all rest k dst (e.set s (.bool b)) d) else zG P R all rest k (putE (e.set s (.bool b)) dst undef) d h) (zG P R all rest k (putE e dst undef) d h)
def gtPo (P:Program)(R:Heap→Heap→Prop)(s:Option Tmp)(want:Bool)(op:Op)(all:List Oper)(rest:PT)(k:Cont)(dst:Option Tmp)(e:Env)(d:List Deferred)(h:Heap):Prop:=
  match s with | some s=>gtP P R (e.getD s undef) s want op all rest k dst e d h | none=>zG P R all rest k (putE e dst undef) d h
theorem zpf {j:Nat}{want:Bool}:stTp P R (some ⟨dst,op,ty,pos,after,some (j,want)⟩) all rest k e d h=gtPo P R (zaR all j) want op all rest k dst e d h:=by
  simp only [stTp,zN,gtPo]; cases zaR all j <;> rfl
theorem zri {s:Tmp}{want:Bool}:gtPo P R (some s) want op all rest k dst e d h=gtP P R (e.getD s undef) s want op all rest k dst e d h:=eqi rfl
theorem gtP_tt {s:Tmp}:gtP P R (.bool true) s true op all rest k dst e d h=opPW P op (e.set s (.bool true)) h (setT P R all rest k dst (e.set s (.bool true)) d):=by simp [gtP,zC]
theorem gtP_ff {s:Tmp}:gtP P R (.bool false) s false op all rest k dst e d h=opPW P op (e.set s (.bool false)) h (setT P R all rest k dst (e.set s (.bool false)) d):=by simp [gtP,zC]
theorem gtP_tf {s:Tmp}:gtP P R (.bool true) s false op all rest k dst e d h=zG P R all rest k (putE (e.set s (.bool true)) dst undef) d h:=by simp [gtP,zC]
theorem gtP_ft {s:Tmp}:gtP P R (.bool false) s true op all rest k dst e d h=zG P R all rest k (putE (e.set s (.bool false)) dst undef) d h:=by simp [gtP,zC]
theorem zrs {s:Tmp}{w:Bool}{vs:Array Value}:gtP P R (.tuple vs) s w op all rest k dst e d h=zG P R all rest k (putE e dst undef) d h:=by simp [gtP,zC]
def gtO (P:Program)(v:Value)(s:Tmp)(want:Bool)(op:Op)(ty:TypeId)(dst:Option Tmp)(e:Env)(h:Heap)(K:Env→Heap→Prop):Prop:=
  zC v (fun b=>if b=want then opW P op ty (e.set s (.bool b)) h (fun v h'=>K (putE (e.set s (.bool b)) dst v) h') else K (putE (e.set s (.bool b)) dst undef) h) (K (putE e dst undef) h)
def gtOo (P:Program)(s:Option Tmp)(want:Bool)(op:Op)(ty:TypeId)(dst:Option Tmp)(e:Env)(h:Heap)(K:Env→Heap→Prop):Prop:=
  match s with | some s=>gtO P (e.getD s undef) s want op ty dst e h K | none=>K (putE e dst undef) h
theorem zrW {j:Nat}{want:Bool}{K:Env→Heap→Prop}:stO P all (some ⟨dst,op,ty,pos,after,some (j,want)⟩) e h K=gtOo P (zaR all j) want op ty dst e h K:=by
  simp only [stO,zN,gtOo]; cases zaR all j <;> rfl
theorem zqA {s:Tmp}{want:Bool}{K:Env→Heap→Prop}:gtOo P (some s) want op ty dst e h K=gtO P (e.getD s undef) s want op ty dst e h K:=eqi rfl
theorem gtO_tt {s:Tmp}{K:Env→Heap→Prop}:gtO P (.bool true) s true op ty dst e h K=opW P op ty (e.set s (.bool true)) h (fun v h'=>K (putE (e.set s (.bool true)) dst v) h'):=by simp [gtO,zC]
theorem gtO_ff {s:Tmp}{K:Env→Heap→Prop}:gtO P (.bool false) s false op ty dst e h K=opW P op ty (e.set s (.bool false)) h (fun v h'=>K (putE (e.set s (.bool false)) dst v) h'):=by simp [gtO,zC]
theorem gtO_tf {s:Tmp}{K:Env→Heap→Prop}:gtO P (.bool true) s false op ty dst e h K=K (putE (e.set s (.bool true)) dst undef) h:=by simp [gtO,zC]
theorem gtO_ft {s:Tmp}{K:Env→Heap→Prop}:gtO P (.bool false) s true op ty dst e h K=K (putE (e.set s (.bool false)) dst undef) h:=by simp [gtO,zC]
theorem zqI {s:Tmp}{w:Bool}{vs:Array Value}{K:Env→Heap→Prop}:gtO P (.tuple vs) s w op ty dst e h K=K (putE e dst undef) h:=by simp [gtO,zC]
set_option linter.defProp false
def za5:=And.intro (And.intro (And.intro @znO @zpA) (And.intro (And.intro @zqu @zqa) (And.intro (And.intro @zr5 @zpf) (And.intro @zqz @zrW))))
  (And.intro (And.intro (And.intro @zqy @zri) (And.intro @zqA @setT_eq)) (And.intro (And.intro (And.intro @gtT_tt @gtT_ff) (And.intro @gtT_tf (And.intro @gtT_ft @zrM))) (And.intro (And.intro (And.intro @gtP_tt @gtP_ff) (And.intro @gtP_tf (And.intro @gtP_ft @zrs))) (And.intro (And.intro @gtO_tt @gtO_ff) (And.intro @gtO_tf (And.intro @gtO_ft @zqI))))))
theorem zqX (H:∀ h',R h h'→k .normal e d h'):zG P R all .fin k e d h:=H
theorem ziU (H:∀ h',R h h'→stO P all all[i]? e h' (fun e h''=>R h' h''∧zG P R all rest k e d h'')):zG P R all (.keep i rest) k e d h:=H
theorem eqh {p:Heap→Prop}(H:p h):∀ h',EqH h h'→p h':=fun h' hh=>by rw [show h'=h from hh]; exact H
theorem zp6 (H:k .normal e d h):zG P EqH all .fin k e d h:=eqh H
theorem znE (H:stO P all all[i]? e h (fun e h''=>EqH h h''∧zG P EqH all rest k e d h'')):zG P EqH all (.keep i rest) k e d h:=eqh (p:=fun h=>stO P all all[i]? e h (fun e h''=>EqH h h''∧zG P EqH all rest k e d h'')) H
end tree
section fresh
variable {P:Program} {h:Heap} {er:Env} {ty:TypeId}
end fresh
end Go.Eng
end
