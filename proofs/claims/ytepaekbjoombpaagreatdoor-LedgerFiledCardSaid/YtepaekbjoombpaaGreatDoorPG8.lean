/- Texts joined by pack.py: lemmas for YtepaekbjoombpaaGreatDoorFiled. No condition. -/
import Derived.Test.YtepaekbjoombpaaGreatDoorPG7
import Derived.KernelRfl
import Derived.Test.YtepaekbjoombpaaGreatDoorProg
set_option linter.unusedSimpArgs false
set_option linter.unusedVariables false
set_option linter.defProp false
section
namespace Go.Proofs.YtepaekbjoombpaaGreatDoor
open Go Go.Proofs Go.Eng Go.Run Tab
set_option maxRecDepth 100000
set_option linter.unusedSimpArgs false
set_option linter.unusedVariables false
set_option linter.defProp false
set_option maxHeartbeats 4000000
set_option linter.defProp false
def zi:=(And.intro (And.intro (And.intro (And.intro (And.intro @zeK @agg24) (And.intro @agg3 @agg40)) (And.intro (And.intro @agg9 @by26) (And.intro @by3 (And.intro @by40 @by9)))) (And.intro (And.intro (And.intro @zdl @fps24_0) (And.intro @fps24_1 (And.intro @fps26_0 @fps26_1))) (And.intro (And.intro @fps26_2 @fps26_3) (And.intro @zes (And.intro @inf24 @zcQ))))) (And.intro (And.intro (And.intro (And.intro @inf3 @inf40) (And.intro @inf9 @okf24)) (And.intro (And.intro @okf26 @sz22) (And.intro @sz24 (And.intro @sz26 @sz3)))) (And.intro (And.intro (And.intro @sz40 @sz9) (And.intro @zero24 (And.intro @zgL @zero40))) (And.intro (And.intro @Tryz.underlying9 @Tryz.underlying22) (And.intro @Tryz.underlying40 (And.intro @Tryz.underlying65 @Tryz.underlying73))))))
abbrev HdF:=Option Addr × Nat × Nat
def hdF (t:HdF):Value:=.slice t.1 t.2.1 t.2.2
def hdsF (T:List HdF):List Value:=T.map hdF
theorem zdO (T:List HdF):(hdsF T).length=T.length:=by simp [hdsF]
theorem zdC {h:Eng.Heap}{b:Option Addr}{T:List HdF}(R:Row h b (hdsF T)){j:Nat}(hj:j<T.length):zar h (eltP b j)=some (.slice (T.getD j (none,0,0)).1 (T.getD j (none,0,0)).2.1 (T.getD j (none,0,0)).2.2):=by
  have h1:=R.cell (j:=j) (by rw [zdO]; exact hj)
  rw [h1,List.getD_eq_getElem?_getD,List.getElem?_eq_getElem hj]
  simp [hdsF,hdF]
theorem appF73 {h:Eng.Heap}{er:Env}{ty:TypeId}{m0:Nat}{x y:Operand}{a b:Option Addr}{len cap m c:Nat}{T U:List HdF}{K:Value→Eng.Heap→Prop}(hx:ev er x=.slice a len cap)(hy:ev er y=.slice b m c)(O:OwnV m0 h 40 1 a len cap (hdsF T))(h0h:m0≤h.size)(I:Row h b (hdsF U))(hm:m=U.length)(hb:len+m≤1000)
    (H:∀ a' cap' h',OwnV m0 h' 40 1 a' (len+m) cap' (hdsF (T++U))→App h h' a a'→K (.slice a' (len+m) cap') h'):ze Tryz.prog (.call ⟨.builtin .append,#[x,y],#[73,73]⟩) ty er h K:=
  zdf Tryz.underlying73 Tryz.underlying73 inf40 sz40 zero40 (by rfl) hx hy O h0h I (by rw [zdO]; omega) (fun u hu=>by
    obtain⟨x,_,rfl⟩:=List.mem_map.1 hu
    rfl) (by omega) (by rw [by40]; omega) fun a' cap' h' O' A'=>H a' cap' h' (by
      have e:hdsF T++hdsF U=hdsF (T++U):=by simp [hdsF]
      rw [← e]; exact O') A'
theorem zoW (a:Option Addr)(i j:Nat):eltP (eltP a i) j=eltP a (i+j):=by
  cases a with
  | none=>rfl
  | some p=>
    show some (addA (addA p i) j)=some (addA p (i+j))
    congr 1
    unfold addA
    by_cases h1:i=0 <;> by_cases h2:j=0 <;> simp [h1,h2,Nat.add_assoc]
theorem appF22 {h:Eng.Heap}{er:Env}{ty:TypeId}{m0:Nat}{x y:Operand}{a b:Option Addr}{len cap m c:Nat}{xs ys:List En}{K:Value→Eng.Heap→Prop}(hx:ev er x=.slice a len cap)(hy:ev er y=.slice b m c)(O:OwnV m0 h 26 4 a len cap (ensV xs))(h0h:m0≤h.size)(I:Row h b (ensV ys))(hm:ys.length=m)(hb:len+m≤1000)
    (H:∀ a' cap' h',OwnV m0 h' 26 4 a' (len+m) cap' (ensV (xs++ys))→App h h' a a'→K (.slice a' (len+m) cap') h'):ze Tryz.prog (.call ⟨.builtin .append,#[x,y],#[22,22]⟩) ty er h K:=
  zdf Tryz.underlying22 Tryz.underlying22 zcQ sz26 zgL (by rfl) hx hy O h0h I (by rw [zG,hm]) (fun u hu=>by
    simp only [ensV,List.mem_flatMap,enV] at hu
    obtain⟨e,_,hu⟩:=hu
    simp at hu
    rcases hu with rfl | rfl | rfl | rfl <;> rfl) (by omega) (by rw [by26]; omega) (fun a' cap' h' O' A=>H a' cap' h' (by rw [zk8]; exact O') A)
theorem zgv (L:List ByteArray):(esOf L).length=L.length - 2:=by unfold esOf; rw [List.length_map,zfU]
theorem zn7 {L:List ByteArray}{j:Nat}(hj:j<L.length - 2):(esOf L).take (j+1)=(esOf L).take j++[enOf (rowN (L.getD (j+1) ⟨#[]⟩))]:=by
  rw [zdv _ (by rw [zgv]; exact hj)]
  have h1:=zhX (L:=L) ⟨#[]⟩ hj
  congr 2
  rw [← h1,List.getD_eq_getElem?_getD,List.getElem?_eq_getElem (by rw [zfU]; exact hj)]
  unfold esOf
  rw [List.getElem_map]
  rfl
structure zcs (h:Eng.Heap)(T:List HdF)(L:List ByteArray)(i:Nat):Prop where
  len:T.length=i
  row:∀ j,j<i→OwnI 0 h 3 (T.getD j (none,0,0)).1 (T.getD j (none,0,0)).2.1 (T.getD j (none,0,0)).2.2 (nzF (rowN (L.getD j ⟨#[]⟩)))
theorem zcs.nil (h:Eng.Heap)(L:List ByteArray):zcs h [] L 0:=⟨rfl,fun j hj=>by omega⟩
theorem zcs.ext {h h':Eng.Heap}{T:List HdF}{L:List ByteArray}{i:Nat}(R:zcs h T L i)(x:Ext h h'):zcs h' T L i:=⟨R.len,fun j hj=>(R.row j hj).ext x⟩
theorem zcs.app {h h':Eng.Heap}{T:List HdF}{L:List ByteArray}{i m0:Nat}{aN:Option Addr}{n cN:Nat}{aT a':Option Addr}{lT cT:Nat}{vs:List Value}(R:zcs h T L i)(I:OwnI 0 h 3 aN n cN (nzF (rowN (L.getD i ⟨#[]⟩))))(A:App h h' aT a')(O:OwnV m0 h 40 1 aT lT cT vs):zcs h' (T++[(aN,n,cN)]) L (i+1):=by
  refine⟨by rw [List.length_append,List.length_singleton,R.len],fun j hj=>?_⟩
  by_cases hji:j=i
  · subst hji
    have hTl:=R.len
    rw [List.getD_eq_getElem?_getD,List.getElem?_append_right (by omega),hTl,Nat.sub_self]
    exact zgc I A O (by decide)
  · have hTl:=R.len
    rw [List.getD_eq_getElem?_getD,List.getElem?_append_left (by omega),← List.getD_eq_getElem?_getD]
    exact zgc (R.row j (by omega)) A O (by decide)
theorem load40 (s:ByteArray)(h:Eng.Heap)(F:Fx h)(hs:s.size≤700) :
    zb Tryz.prog 40 #[.string s] h (fun v h'=>LdP s v h'∧Ext h h'):=by
  (refine zh Tryz.func40 rfl bod40 ?_; simp only [Tryz.ntmps40,Tryz.results40,za,zm,splice,Value.cells,Value.oneCell',Nat.reduceAdd,Nat.reduceSub,Nat.reduceMul,Nat.reduceLeDiff,Int.reduceEq,Nat.reduceEqDiff,zi])
  obtain⟨h0,hh0⟩:∃ h0,h0=h.push (.cells #[.int .i64 0,.int .i64 0,.slice none 0 0] 24):=⟨_,rfl⟩
  have x0:Ext h h0:=by rw [hh0]; exact (Ext.refl h).push _
  have g0:h0[h.size]?=some (.cells #[.int .i64 0,.int .i64 0,.slice none 0 0] 24):=by rw [hh0]; exact zy
  rw [← hh0]
  by_cases c1:400<s.size
  · have c1i:(400:Int)<(s.size:Int):=by omega
    simp only [c1i,decide_true,za,Value.cells,Value.oneCell',Nat.reduceAdd,Nat.reduceSub,Nat.reduceMul,Nat.reduceLeDiff,Int.reduceEq,Nat.reduceEqDiff,zi]
    have e7:=zgh c1
    exact⟨.inr ⟨by omega,by rw [e7]⟩,x0⟩
  have c1i:¬ (400:Int)<(s.size:Int):=by omega
  simp only [c1i,decide_false,za,Value.cells,Value.oneCell',Nat.reduceAdd,Nat.reduceSub,Nat.reduceMul,Nat.reduceLeDiff,Int.reduceEq,Nat.reduceEqDiff,zi]
  refine zb.mono (zln s 10 h0 (by omega)) ?_
  rintro v h1 ⟨rfl,rfl⟩
  cases hb:lstB s 10 with
  | false=>
    simp only [Bool.false_eq_true,if_false,za,Value.cells,Value.oneCell',Nat.reduceAdd,Nat.reduceSub,Nat.reduceMul,Nat.reduceLeDiff,Int.reduceEq,Nat.reduceEqDiff,zi]
    refine zb.mono (zhV s 10 h1 (by omega)) ?_
    rintro v h2 ⟨⟨aS,ws,rfl,RS,hws⟩,x2⟩
    have g2:=x2.get g0
    simp only [g2,zn,za,Value.cells,Value.oneCell',Nat.reduceAdd,Nat.reduceSub,Nat.reduceMul,Nat.reduceLeDiff,Int.reduceEq,Nat.reduceEqDiff,zi]
    have e8:=ze0 c1 (fun hh=>by have:=hh.1; rw [hb] at this; cases this)
    refine zat g2 (by simp) fun h3 g3 u3=>?_
    simp only [splice,List.take,List.drop,List.nil_append,List.append_nil,List.length_cons,List.length_nil] at g3
    simp only [g3,za,Value.cells,Value.oneCell',Nat.reduceAdd,Nat.reduceSub,Nat.reduceMul,Nat.reduceLeDiff,Int.reduceEq,Nat.reduceEqDiff,zi]
    exact⟨.inr ⟨by omega,by rw [e8]⟩,u3.ext (x0.trans x2) (Nat.le_refl _)⟩
  | true=>
  have hlt0:0<s.size:=by
    unfold lstB at hb
    exact (of_decide_eq_true hb).1
  obtain⟨W,hW⟩:∃ W,W=s.extract 0 (s.size - 1):=⟨_,rfl⟩
  have hWs:W.size=s.size - 1:=by rw [hW,zc5 _ _ _ (by omega) (by omega)]; omega
  simp only [if_true,za,Value.cells,Value.oneCell',Nat.reduceAdd,Nat.reduceSub,Nat.reduceMul,Nat.reduceLeDiff,Int.reduceEq,Nat.reduceEqDiff,zi]
  rw [← hW]
  refine zb.mono (zhV W 10 h1 (by omega)) ?_
  rintro v h2 ⟨⟨aS,L,rfl,RS,hws⟩,x2⟩
  have hL:lnsB s=L:=by unfold lnsB; rw [← hW]; exact ws_bs hws
  have hLl:L.length=(bl W).count 10+1:=by rw [← zfP,← hws,List.length_map]
  have hLc:=List.count_le_length (a:=(10:UInt8)) (l:=bl W)
  rw [zz] at hLc
  by_cases c2:L.length<2
  · have c2i:((L.length:Nat):Int)<2:=by omega
    have g2:=x2.get g0
    simp only [g2,c2i,zn,decide_true,Bool.not_true,za,Value.cells,Value.oneCell',Nat.reduceAdd,Nat.reduceSub,Nat.reduceMul,Nat.reduceLeDiff,Int.reduceEq,Nat.reduceEqDiff,zi]
    have e8:=ze0 c1 (fun hh=>by have:=hh.2; rw [hL] at this; omega)
    refine zat g2 (by simp) fun h3 g3 u3=>?_
    simp only [splice,List.take,List.drop,List.nil_append,List.append_nil,List.length_cons,List.length_nil] at g3
    simp only [g3,za,Value.cells,Value.oneCell',Nat.reduceAdd,Nat.reduceSub,Nat.reduceMul,Nat.reduceLeDiff,Int.reduceEq,Nat.reduceEqDiff,zi]
    exact⟨.inr ⟨by omega,by rw [e8]⟩,u3.ext (x0.trans x2) (Nat.le_refl _)⟩
  have c2i:¬ ((L.length:Nat):Int)<2:=by omega
  simp only [c2i,zn,decide_false,Bool.not_true,za,Value.cells,Value.oneCell',Nat.reduceAdd,Nat.reduceSub,Nat.reduceMul,Nat.reduceLeDiff,Int.reduceEq,Nat.reduceEqDiff,zi]
  have h1f:lstB s 10=true∧2≤(lnsB s).length:=⟨hb,by rw [hL]; omega⟩
  have g2:=x2.get g0
  have F2:=F.ext (x0.trans x2)
  have form:∀ {i:Nat},i<L.length→¬ rdOK (L.getD i ⟨#[]⟩) (zak L.length i)→ldE s=8:=fun {i} hi hh=>zj7 c1 h1f fun hk=>hh (by rw [hL] at hk; exact hk i hi)
  refine zX [3,7,8,9,10,11,12,13,14,15,16,43,44,45,46,47,48,49,50,51,52,53,54,55,56,57,58,59,60,61,62,63,64,65,66,67,68,69,70,71,72,73,74,75,76,77,78,79,80,81,82,83,84,85,86,87] (fun e h'=>Ext h2 h'∧∃ i:Nat,i≤L.length∧e 43=.int .i64 i∧e 8=.bool (!(L.take i).all rgtB)∧(∀ j,j<i→rdOK (L.getD j ⟨#[]⟩) (zak L.length j))∧∃ aT cT,∃ T:List HdF,e 7=.slice aT i cT∧OwnV h2.size h' 40 1 aT i cT (hdsF T)∧zcs h' T L i) (fun e _=>match e 43 with | .int _ q=>L.length - q.toNat | _=>0) ⟨Ext.refl _,0,by omega,rfl,rfl,fun j hj=>by omega,none,0,[],rfl,OwnV.nil _ _ _ _,zcs.nil _ _⟩ ?_
  rintro e h3 ⟨x3,i,hi,he,he8,hok,aT,cT,T,heT,OT,RT⟩
  by_cases hin:i<L.length
  · have hlt:(i:Int)<(L.length:Int):=by omega
    have meas:L.length - ((i:Int)+1).toNat<L.length - (i:Int).toNat:=by omega
    have ci:=zcF (RS.ext x3) hin
    have si:=zfx RS (by omega)
    obtain⟨w,hw⟩:∃ w,w=L[i]:=⟨_,rfl⟩
    have hwd:L.getD i ⟨#[]⟩=w:=by rw [hw,List.getD_eq_getElem?_getD,List.getElem?_eq_getElem hin]; rfl
    have hbw:=zl1 hws hin
    rw [← hw] at ci hbw
    have hwl:=zhh 10 (bl W) (List.getElem_mem (l:=FL.prt 10 (bl W)) (n:=i) (by rw [← hws,List.length_map]; exact hin))
    rw [← hbw,zz,zz] at hwl
    have hcase:i=0∨(i≠0∧i+1=L.length)∨(i≠0∧i+1≠L.length):=by omega
    obtain⟨many,hmany⟩:∃ many,many=zak L.length i:=⟨_,rfl⟩
    have hmz:many≠1:=by rw [hmany]; unfold zak; split <;> (try split) <;> omega
    rcases hcase with k0 | ⟨k1,k2⟩ | ⟨k1,k2⟩
    case' inl=>
      have kd:decide ((i:Int)=0)=true:=decide_eq_true (by omega)
      have km:many=2:=by rw [hmany,zak,if_pos k0]
      have kmi:(2:Int)=(many:Int):=by omega
      simp only [he,he8,heT,hlt,ci,kd,zn,decide_true,Int.toNat_natCast,za,Value.cells,Value.oneCell',Nat.reduceAdd,Nat.reduceSub,Nat.reduceMul,Nat.reduceLeDiff,Int.reduceEq,Nat.reduceEqDiff,zi]
      refine⟨by omega,si,?_⟩
    case' inr.inl=>
      have kd:decide ((i:Int)=0)=false:=decide_eq_false (by omega)
      have kd2:decide ((i:Int)=(L.length:Int) - 1)=true:=decide_eq_true (by omega)
      have km:many=2:=by rw [hmany,zak,if_neg k1,if_pos k2]
      have kmi:(2:Int)=(many:Int):=by omega
      simp only [he,he8,heT,hlt,ci,kd,kd2,zn,decide_true,Int.toNat_natCast,za,Value.cells,Value.oneCell',Nat.reduceAdd,Nat.reduceSub,Nat.reduceMul,Nat.reduceLeDiff,Int.reduceEq,Nat.reduceEqDiff,zi]
      refine⟨by omega,si,by rw [zg]; omega,?_⟩
    case' inr.inr=>
      have kd:decide ((i:Int)=0)=false:=decide_eq_false (by omega)
      have kd2:decide ((i:Int)=(L.length:Int) - 1)=false:=decide_eq_false (by omega)
      have km:many=4:=by rw [hmany,zak,if_neg k1,if_neg k2]
      have kmi:(4:Int)=(many:Int):=by omega
      simp only [he,he8,heT,hlt,ci,kd,kd2,zn,decide_true,Int.toNat_natCast,za,Value.cells,Value.oneCell',Nat.reduceAdd,Nat.reduceSub,Nat.reduceMul,Nat.reduceLeDiff,Int.reduceEq,Nat.reduceEqDiff,zi]
      refine⟨by omega,si,by rw [zg]; omega,?_⟩
    all_goals
      refine zb.mono (cut85 w h3 (by omega)) ?_
      rintro v h4 ⟨rfl,x4⟩
      have y4:=x3.trans x4
      cases hk:zT w with
      | false=>
        simp only [Bool.false_eq_true,if_false,za,Value.cells,Value.oneCell',Nat.reduceAdd,Nat.reduceSub,Nat.reduceMul,Nat.reduceLeDiff,Int.reduceEq,Nat.reduceEqDiff,zi]
        have n94:=ziO ⟨#[]⟩ many h4 (F2.ext y4) (Nat.zero_le _) (fun b hb=>by cases hb)
        rw [← kmi] at n94
        refine zb.mono n94 ?_
        rintro v h5 ⟨HN,x5⟩
        have y5:=y4.trans x5
        rcases HN with⟨hh,-⟩ | ⟨-,rfl⟩
        · exact absurd hh.1.symm hmz
        have g5:=y5.get g2
        simp only [g5,zn,Bool.not_false,Bool.not_true,za,Value.cells,Value.oneCell',Nat.reduceAdd,Nat.reduceSub,Nat.reduceMul,Nat.reduceLeDiff,Int.reduceEq,Nat.reduceEqDiff,zi]
        have e8:=form hin (by rw [hwd]; intro hh; have:=hh.1; rw [hk] at this; cases this)
        refine zat g5 (by simp) fun h6 g6 u6=>?_
        simp only [splice,List.take,List.drop,List.nil_append,List.append_nil,List.length_cons,List.length_nil] at g6
        simp only [g6,za,Value.cells,Value.oneCell',Nat.reduceAdd,Nat.reduceSub,Nat.reduceMul,Nat.reduceLeDiff,Int.reduceEq,Nat.reduceEqDiff,zi]
        exact⟨.inr ⟨by omega,by rw [e8]⟩,u6.ext (x0.trans (x2.trans y5)) (Nat.le_refl _)⟩
      | true=>
        obtain⟨hw3,hwt,-⟩:=(zY w).1 hk
        obtain⟨X,hX⟩:∃ X,X=w.extract 0 (w.size - 2):=⟨_,rfl⟩
        have hXt:zbk w=bl X:=by unfold zbk; rw [hX]
        simp only [if_true,za,Value.cells,Value.oneCell',Nat.reduceAdd,Nat.reduceSub,Nat.reduceMul,Nat.reduceLeDiff,Int.reduceEq,Nat.reduceEqDiff,zi]
        rw [← hX] at hwt ⊢
        have hX12:=ze5 hwt
        have n94:=ziO X many h4 (F2.ext y4) (by omega) (fun b hb=>by
          obtain⟨j,hj,rfl⟩:=List.mem_iff_getElem.1 hb
          have h9:=((zbO X).1 hwt).2 j (by rw [zz] at hj; exact hj)
          rw [zbs,List.getD_eq_getElem?_getD,List.getElem?_eq_getElem hj] at h9
          exact h9)
        rw [← kmi] at n94
        refine zb.mono n94 ?_
        rintro v h5 ⟨HN,x5⟩
        have y5:=y4.trans x5
        rcases HN with⟨hn,aN,cN,rfl,IN⟩ | ⟨hn,rfl⟩
        case inr=>
          have g5:=y5.get g2
          simp only [g5,zn,Bool.not_false,Bool.not_true,za,Value.cells,Value.oneCell',Nat.reduceAdd,Nat.reduceSub,Nat.reduceMul,Nat.reduceLeDiff,Int.reduceEq,Nat.reduceEqDiff,zi]
          have e8:=form hin (by rw [hwd,← hmany]; intro hh; have:=hh.2; rw [hXt] at this; exact hn this)
          refine zat g5 (by simp) fun h6 g6 u6=>?_
          simp only [splice,List.take,List.drop,List.nil_append,List.append_nil,List.length_cons,List.length_nil] at g6
          simp only [g6,za,Value.cells,Value.oneCell',Nat.reduceAdd,Nat.reduceSub,Nat.reduceMul,Nat.reduceLeDiff,Int.reduceEq,Nat.reduceEqDiff,zi]
          exact⟨.inr ⟨by omega,by rw [e8]⟩,u6.ext (x0.trans (x2.trans y5)) (Nat.le_refl _)⟩
        have hrd:rdOK w many:=⟨hk,by rw [hXt]; exact hn⟩
        have hrow:rowN w=numsL (bl X):=by unfold rowN; rw [hXt]
        rw [← hrow] at IN ⊢
        have hall:(L.take (i+1)).all rgtB=((L.take i).all rgtB&&rgtB w):=by
          rw [zdv L hin,← hw,List.all_append]
          simp
        have hok1:∀ j,j<i+1→rdOK (L.getD j ⟨#[]⟩) (zak L.length j):=fun j hj=>by
          by_cases hji:j=i
          · rw [hji,hwd,← hmany]; exact hrd
          · exact hok j (by omega)
        cases hwr:(L.take i).all rgtB with
        | false=>
          rw [hwr,Bool.false_and] at hall
          simp only [he,he8,heT,hwr,zn,Bool.not_false,Bool.not_true,za,Value.cells,Value.oneCell',Nat.reduceAdd,Nat.reduceSub,Nat.reduceMul,Nat.reduceLeDiff,Int.reduceEq,Nat.reduceEqDiff,zi]
          have x6:Ext h5 (h5.push (.cells #[.slice aN (rowN w).length cN] 40)):=(Ext.refl h5).push _
          have OT6:=(OT.ext (x4.trans x5)).ext x6
          have RT6:=(RT.ext (x4.trans x5)).ext x6
          refine appF73 (m0:=h2.size) (m:=1) (U:=[(aN,(rowN w).length,cN)]) rfl rfl OT6 (y5.trans x6).size (Row.block (c:=hdsF [(aN,(rowN w).length,cN)]) zy) rfl (by omega) fun a' cap' h7 O7 A7=>?_
          simp only [he,za,Value.cells,Value.oneCell',Nat.reduceAdd,Nat.reduceSub,Nat.reduceMul,Nat.reduceLeDiff,Int.reduceEq,Nat.reduceEqDiff,zi]
          exact⟨by rw [zg]; omega,zD (by kernel_rfl) ⟨A7.extV OT6 (y5.trans x6) (Nat.le_refl _),i+1,by omega,rfl,by rw [hall]; rfl,hok1,a',cap',_,rfl,O7,RT6.app (by rw [hwd]; exact IN.ext x6) A7 OT6⟩ meas⟩
        | true=>
          rw [hwr,Bool.true_and] at hall
          simp only [he,he8,heT,hwr,zn,Bool.not_false,Bool.not_true,za,Value.cells,Value.oneCell',Nat.reduceAdd,Nat.reduceSub,Nat.reduceMul,Nat.reduceLeDiff,Int.reduceEq,Nat.reduceEqDiff,zi]
          refine zb.mono (zkH X h5 hwt) ?_
          rintro v h6 ⟨rfl,x6'⟩
          have hrg:decide (w.extract (w.size - 1) w.size=zbw X)=rgtB w:=by unfold rgtB; rw [hX]
          simp only [he,heT,hrg,zn,za,Value.cells,Value.oneCell',Nat.reduceAdd,Nat.reduceSub,Nat.reduceMul,Nat.reduceLeDiff,Int.reduceEq,Nat.reduceEqDiff,zi]
          have x6:Ext h6 (h6.push (.cells #[.slice aN (rowN w).length cN] 40)):=(Ext.refl h6).push _
          have OT6:=(OT.ext ((x4.trans x5).trans x6')).ext x6
          have RT6:=(RT.ext ((x4.trans x5).trans x6')).ext x6
          refine appF73 (m0:=h2.size) (m:=1) (U:=[(aN,(rowN w).length,cN)]) rfl rfl OT6 ((y5.trans x6').trans x6).size (Row.block (c:=hdsF [(aN,(rowN w).length,cN)]) zy) rfl (by omega) fun a' cap' h7 O7 A7=>?_
          simp only [he,za,Value.cells,Value.oneCell',Nat.reduceAdd,Nat.reduceSub,Nat.reduceMul,Nat.reduceLeDiff,Int.reduceEq,Nat.reduceEqDiff,zi]
          exact⟨by rw [zg]; omega,zD (by kernel_rfl) ⟨A7.extV OT6 ((y5.trans x6').trans x6) (Nat.le_refl _),i+1,by omega,rfl,by rw [hall]; rfl,hok1,a',cap',_,rfl,O7,RT6.app (by rw [hwd]; exact (IN.ext x6').ext x6) A7 OT6⟩ meas⟩
  obtain rfl:i=L.length:=by omega
  rw [List.take_of_length_le (Nat.le_refl _)] at he8
  have hfrm:zcy (lnsB s):=by rw [hL]; exact hok
  have he7:=heT
  have lenz:=RT.len
  have b0:=zdC OT.row (j:=0) (by omega)
  have bz:=zdC OT.row (j:=L.length - 1) (by omega)
  obtain⟨t0,ht0⟩:∃ t0,t0=T.getD 0 (none,0,0):=⟨_,rfl⟩
  have I0:=(RT.row 0 (by omega)).ints
  have l0:=zeo (hok 0 (by omega))
  rw [← ht0] at b0 I0
  have l0m:zak L.length 0=2:=by unfold zak; rw [if_pos rfl]
  rw [l0m] at l0
  have c00:=I0.cell (j:=0) (by rw [zJ]; omega)
  have c01:=I0.cell (j:=1) (by rw [zJ]; omega)
  have s0:=I0.isSome (by rw [zJ]; omega)
  have n0:=I0.len
  rw [zJ,l0] at n0
  rw [zeC] at c00 c01
  have sT:aT.isSome=true:=OT.row.isSome (by rw [zdO]; omega)
  simp only [he,heT,show ¬ ((L.length:Int)<(L.length:Int)) by omega,decide_false,za,Value.cells,Value.oneCell',Nat.reduceAdd,Nat.reduceSub,Nat.reduceMul,Nat.reduceLeDiff,Int.reduceEq,Nat.reduceEqDiff,zi]
  refine zhU (by kernel_rfl) zc6 (.quiet 0 (.quiet 1 (.quiet 2 (.quiet 3 (.quiet 4 (.quiet 5 (.quiet 6 (.quiet 7 (.quiet 8 (.quiet 9 (.quiet 10 (.keep 11 (.one 12 (.fin)))))))))))))) (by kernel_rfl) rfl (by kernel_rfl) ?_
  simp only [heT,b0,c00,c01,za,Value.cells,Value.oneCell',Nat.reduceAdd,Nat.reduceSub,Nat.reduceMul,Nat.reduceLeDiff,Int.reduceEq,Nat.reduceEqDiff,zC,zba,zi]
  refine⟨⟨by omega,by omega⟩,sT,⟨by omega,by omega⟩,s0,⟨by omega,by omega⟩,sT,⟨by omega,by omega⟩,s0,?_⟩
  have ka:zaS (lnsB s)=(rowN (L.getD 0 ⟨#[]⟩)).getD 0 0:=by unfold zaS; rw [hL]
  have kz:zbl (lnsB s)=(rowN (L.getD 0 ⟨#[]⟩)).getD 1 0:=by unfold zbl; rw [hL]
  rw [← ka,← kz]
  obtain⟨k,hk⟩:∃ k,k=zaS (lnsB s):=⟨_,rfl⟩
  obtain⟨z,hz⟩:∃ z,z=zbl (lnsB s):=⟨_,rfl⟩
  rw [← hk,← hz]
  simp only [splice,List.take,List.drop,List.nil_append,List.cons_append,List.append_nil,List.length_cons,List.length_nil,Nat.zero_add,Nat.reduceAdd,Nat.reduceLeDiff,if_true,za,Value.cells,Value.oneCell',Nat.reduceAdd,Nat.reduceSub,Nat.reduceMul,Nat.reduceLeDiff,Int.reduceEq,Nat.reduceEqDiff,zC,zba,zi]
  refine zht fun h4 x4=>?_
  simp only [za,Value.cells,Value.oneCell',Nat.reduceAdd,Nat.reduceSub,Nat.reduceMul,Nat.reduceLeDiff,Int.reduceEq,Nat.reduceEqDiff,zC,zba,zi]
  refine⟨(Ext.refl h4).push _,?_⟩
  refine zeS fun h5 x5=>?_
  have q5:=x5.get (zy (h:=h4))
  simp only [q5,za,Value.cells,Value.oneCell',Nat.reduceAdd,Nat.reduceSub,Nat.reduceMul,Nat.reduceLeDiff,Int.reduceEq,Nat.reduceEqDiff,zC,zba,zi]
  refine zat q5 (by simp) fun h6 g6 u6=>?_
  simp only [splice,List.take,List.drop,List.nil_append,List.cons_append,List.append_nil,List.length_cons,List.length_nil,Nat.zero_add,Nat.reduceAdd] at g6
  refine zir fun h7 x7=>?_
  have g7:=x7.get g6
  have x37:Ext h3 h7:=(u6.ext (x4.trans x5.of_push) (x4.size)).trans x7
  obtain⟨B,hB⟩:∃ B,B=h4.size:=⟨_,rfl⟩
  have hB3:h3.size≤B:=by rw [hB]; exact x4.size
  rw [← hB] at g7 ⊢
  have OT7:=OT.ext x37
  have RT7:=RT.ext x37
  have hB7:=zN g7
  simp only [heT,za,Value.cells,Value.oneCell',Nat.reduceAdd,Nat.reduceSub,Nat.reduceMul,Nat.reduceLeDiff,Int.reduceEq,Nat.reduceEqDiff,zi]
  have hcT:=OT.cap
  have ic:¬ (cT:Int)=1:=by omega
  have e2:((L.length:Int) - 1 - 1).toNat=L.length - 2:=by omega
  simp only [ic,if_false,e2]
  refine⟨by rw [zg]; omega,by omega,by omega,by omega,by omega,?_⟩
  have E7:OwnV (B+1) h7 26 4 none 0 0 (ensV ((esOf L).take 0)):=OwnV.nil _ _ _ _
  refine zX [19,105,106,107,108,109,110,111,112,113,114,115,116,117,118,119,120,121,122,123,124,125,126,127] (fun e h'=>Ext h3 h'∧∃ j:Nat,j≤L.length - 2∧e 105=.int .i64 j∧∃ aE cE,h'[B]?=some (.cells #[.int .i64 k,.int .i64 z,.slice aE j cE] 24)∧OwnV (B+1) h' 26 4 aE j cE (ensV ((esOf L).take j))) (fun e _=>match e 105 with | .int _ q=>L.length - 2 - q.toNat | _=>0) ⟨x37,0,by omega,rfl,none,0,g7,E7⟩ ?_
  rintro e2 h8 ⟨x8,j,hj,he2,aE,cE,g8,OE⟩
  have OT8:=OT.ext x8
  have RT8:=RT.ext x8
  by_cases hjn:j<L.length - 2
  · have hlt:(j:Int)<((L.length - 2:Nat):Int):=by omega
    have meas:L.length - 2 - ((j:Int)+1).toNat<L.length - 2 - (j:Int).toNat:=by omega
    have bt:=zdC OT8.row (j:=1+j) (by rw [lenz]; omega)
    obtain⟨t,ht⟩:∃ t,t=T.getD (1+j) (none,0,0):=⟨_,rfl⟩
    have It:=(RT8.row (1+j) (by omega)).ints
    have lt:=zeo (hok (1+j) (by omega))
    have ltm:zak L.length (1+j)=4:=by unfold zak; rw [if_neg (by omega),if_neg (by omega)]
    rw [← ht] at bt It
    rw [ltm] at lt
    obtain⟨r,hr⟩:∃ r,r=rowN (L.getD (1+j) ⟨#[]⟩):=⟨_,rfl⟩
    rw [← hr] at It lt
    have n0:=It.len
    rw [zJ,lt] at n0
    have r0:=It.cell (j:=0) (by rw [zJ]; omega)
    have r1:=It.cell (j:=1) (by rw [zJ]; omega)
    have r2:=It.cell (j:=2) (by rw [zJ]; omega)
    have r3:=It.cell (j:=3) (by rw [zJ]; omega)
    have sr:=It.isSome (by rw [zJ]; omega)
    rw [zeC] at r0 r1 r2 r3
    have sT1:(eltP aT 1).isSome=true:=by
      cases aT with
      | none=>cases sT
      | some p=>rfl
    simp only [he2,hlt,zoW,bt,decide_true,Int.toNat_natCast,za,Value.cells,Value.oneCell',Nat.reduceAdd,Nat.reduceSub,Nat.reduceMul,Nat.reduceLeDiff,Int.reduceEq,Nat.reduceEqDiff,zi]
    refine⟨by omega,sT1,?_⟩
    have z2:((2:Int)).toNat=2:=rfl
    have z3:((3:Int)).toNat=3:=rfl
    refine zhU (by kernel_rfl) zc6 (.quiet 0 (.quiet 1 (.quiet 2 (.quiet 3 (.quiet 4 (.quiet 5 (.quiet 6 (.quiet 7 (.quiet 8 (.quiet 9 (.quiet 10 (.quiet 11 (.quiet 12 (.quiet 13 (.quiet 14 (.keep 15 (.one 16 (.quiet 17 (.one 18 (.fin)))))))))))))))))))) (by kernel_rfl) rfl (by kernel_rfl) ?_
    simp only [g8,r0,r1,r2,r3,z2,z3,za,Value.cells,Value.oneCell',Nat.reduceAdd,Nat.reduceSub,Nat.reduceMul,Nat.reduceLeDiff,Int.reduceEq,Nat.reduceEqDiff,zC,zba,zi]
    refine⟨⟨by omega,by omega⟩,sr,⟨by omega,by omega⟩,sr,⟨by omega,by omega⟩,sr,⟨by omega,by omega⟩,sr,?_⟩
    simp only [splice,List.take,List.drop,List.nil_append,List.cons_append,List.append_nil,List.length_cons,List.length_nil,Nat.zero_add,Nat.reduceAdd,Nat.reduceLeDiff,if_true,za,Value.cells,Value.oneCell',Nat.reduceAdd,Nat.reduceSub,Nat.reduceMul,Nat.reduceLeDiff,Int.reduceEq,Nat.reduceEqDiff,zC,zba,zi]
    refine zht fun h9 x9=>?_
    simp only [splice,List.take,List.drop,List.nil_append,List.append_nil,List.length_cons,List.length_nil,za,Value.cells,Value.oneCell',Nat.reduceAdd,Nat.reduceSub,Nat.reduceMul,Nat.reduceLeDiff,Int.reduceEq,Nat.reduceEqDiff,zC,zba,zi]
    refine⟨by decide,(Ext.refl h9).push _,?_⟩
    refine zeS fun h10 x10=>?_
    have x810:Ext h8 h10:=x9.trans x10.of_push
    have OE10:=OE.ext x810
    have g10:=x810.get g8
    have q10:=x10.get zy
    simp only [za,Value.cells,Value.oneCell',Nat.reduceAdd,Nat.reduceSub,Nat.reduceMul,Nat.reduceLeDiff,Int.reduceEq,Nat.reduceEqDiff,zC,zba,zi]
    refine appF22 (m0:=B+1) (len:=j) (m:=1) (xs:=(esOf L).take j) (ys:=[enOf r]) rfl rfl OE10 (by have:=zN g10; omega) (Row.block (c:=ensV [enOf r]) q10) rfl (by omega) fun a' cap' h11 O11 A11=>?_
    try simp only [za,Value.cells,Value.oneCell',Nat.reduceAdd,Nat.reduceSub,Nat.reduceMul,Nat.reduceLeDiff,Int.reduceEq,Nat.reduceEqDiff,zC,zba,zi]
    refine zeS fun h12 x12=>?_
    have g12:=x12.get (A11.updV OE10 g10 (by omega))
    simp only [g12,za,Value.cells,Value.oneCell',Nat.reduceAdd,Nat.reduceSub,Nat.reduceMul,Nat.reduceLeDiff,Int.reduceEq,Nat.reduceEqDiff,zC,zba,zi]
    refine zat g12 (by simp) fun h13 g13 u13=>?_
    simp only [splice,List.take,List.drop,List.nil_append,List.cons_append,List.append_nil,List.length_cons,List.length_nil] at g13
    refine zir fun h14 x14=>?_
    simp only [he2,za,Value.cells,Value.oneCell',Nat.reduceAdd,Nat.reduceSub,Nat.reduceMul,Nat.reduceLeDiff,Int.reduceEq,Nat.reduceEqDiff,zi]
    have O14:=((O11.ext x12).upd u13 (by omega)).ext x14
    have et:=zn7 (L:=L) hjn
    rw [Nat.add_comm j 1,← hr,Nat.add_comm 1 j] at et
    have xF:Ext h3 h14:=(u13.ext ((A11.extV OE10 (x8.trans x810) (by omega)).trans x12) hB3).trans x14
    exact⟨by rw [zg]; omega,zD (by kernel_rfl) ⟨xF,j+1,by omega,rfl,a',cap',x14.get g13,by rw [et]; exact O14⟩ meas⟩
  obtain rfl:j=L.length - 2:=by omega
  rw [List.take_of_length_le (by rw [zgv]; exact Nat.le_refl _)] at OE
  have bz:=zdC OT8.row (j:=L.length - 1) (by omega)
  have ez:((L.length:Int) - 1).toNat=L.length - 1:=by omega
  obtain⟨t,ht⟩:∃ t,t=T.getD (L.length - 1) (none,0,0):=⟨_,rfl⟩
  have Oz:=RT8.row (L.length - 1) (by omega)
  have lz:=zeo (hok (L.length - 1) (by omega))
  have lzm:zak L.length (L.length - 1)=2:=by unfold zak; rw [if_neg (by omega),if_pos (by omega)]
  rw [← ht] at bz Oz
  rw [lzm] at lz
  obtain⟨r,hr⟩:∃ r,r=rowN (L.getD (L.length - 1) ⟨#[]⟩):=⟨_,rfl⟩
  rw [← hr] at Oz lz
  have n0:=Oz.ints.len
  rw [zJ,lz] at n0
  obtain⟨es,hes⟩:∃ es,es=esOf L:=⟨_,rfl⟩
  have esl:L.length - 2=es.length:=by rw [hes,zgv]
  rw [← hes] at OE
  have hEs:esOf (lnsB s)=es:=by rw [hL,hes]
  have hEq:zdx (lnsB s)↔r.getD 0 0=es.length∧((r.getD 1 0:Nat):Int)=totL es:=by
    unfold zdx zdt
    rw [hEs,hL,← hr]
  rw [← hL] at he8
  simp only [he2,g8,bz,ez,show ¬ ((L.length - 2:Nat):Int)<((L.length - 2:Nat):Int) by omega,decide_false,za,Value.cells,Value.oneCell',Nat.reduceAdd,Nat.reduceSub,Nat.reduceMul,Nat.reduceLeDiff,Int.reduceEq,Nat.reduceEqDiff,zi]
  refine⟨by rw [zg]; omega,⟨by omega,by omega⟩,sT,?_⟩
  refine zb.mono (zme k z aE (L.length - 2) cE es h8 OE.row esl (by omega)) ?_
  rintro v h9 ⟨rfl,x9⟩
  have y9:=(x3.trans x8).trans x9
  have g9:=y9.get g2
  have gB9:=x9.get g8
  cases hwr:(lnsB s).all rgtB with
  | false=>
    have e14:=zlZ c1 h1f hfrm hwr
    simp only [he8,hwr,g9,Bool.not_false,za,Value.cells,Value.oneCell',Nat.reduceAdd,Nat.reduceSub,Nat.reduceMul,Nat.reduceLeDiff,Int.reduceEq,Nat.reduceEqDiff,zi]
    refine zat g9 (by simp) fun h10 g10 u10=>?_
    simp only [splice,List.take,List.drop,List.nil_append,List.append_nil,List.length_cons,List.length_nil] at g10
    simp only [g10,za,Value.cells,Value.oneCell',Nat.reduceAdd,Nat.reduceSub,Nat.reduceMul,Nat.reduceLeDiff,Int.reduceEq,Nat.reduceEqDiff,zi]
    exact⟨.inr ⟨by omega,by rw [e14]⟩,u10.ext (x0.trans (x2.trans y9)) (Nat.le_refl _)⟩
  | true=>
  have Iz:=(Oz.ext x9).ints
  have r0:=Iz.cell (j:=0) (by rw [zJ]; omega)
  have r1:=Iz.cell (j:=1) (by rw [zJ]; omega)
  have sr:=Iz.isSome (by rw [zJ]; omega)
  rw [zeC] at r0 r1
  simp only [he8,hwr,Bool.not_true,za,Value.cells,Value.oneCell',Nat.reduceAdd,Nat.reduceSub,Nat.reduceMul,Nat.reduceLeDiff,Int.reduceEq,Nat.reduceEqDiff,zi]
  refine zco (by kernel_rfl) zc6 [(0,0),(1,0),(2,0),(3,0),(4,0),(5,0),(6,0),(7,0),(8,0),(9,0),(10,0),(11,0),(12,0),(13,0),(14,0),(15,0),(16,0)] (by kernel_rfl) rfl (by kernel_rfl) ?_
  by_cases q1:r.getD 0 0=es.length
  case neg=>
    have q1d:decide (((r.getD 0 0:Nat):Int)=((L.length - 2:Nat):Int))=false:=decide_eq_false (by omega)
    have e15:=zh3 c1 h1f hfrm hwr (fun hh=>q1 (hEq.1 hh).1)
    simp only [r0,gB9,q1d,zn,zbU,Bool.not_false,za,Value.cells,Value.oneCell',Nat.reduceAdd,Nat.reduceSub,Nat.reduceMul,Nat.reduceLeDiff,Int.reduceEq,Nat.reduceEqDiff,zC,zi]
    refine⟨⟨by omega,by omega⟩,sr,?_⟩
    refine zcE fun h10 x10=>?_
    have g10:=x10.get g9
    simp only [g10,za,Value.cells,Value.oneCell',Nat.reduceAdd,Nat.reduceSub,Nat.reduceMul,Nat.reduceLeDiff,Int.reduceEq,Nat.reduceEqDiff,zi]
    refine zat g10 (by simp) fun h11 g11 u11=>?_
    simp only [splice,List.take,List.drop,List.nil_append,List.append_nil,List.length_cons,List.length_nil] at g11
    simp only [g11,za,Value.cells,Value.oneCell',Nat.reduceAdd,Nat.reduceSub,Nat.reduceMul,Nat.reduceLeDiff,Int.reduceEq,Nat.reduceEqDiff,zi]
    exact⟨.inr ⟨by omega,by rw [e15]⟩,u11.ext (x0.trans (x2.trans (y9.trans x10))) (Nat.le_refl _)⟩
  have q1d:decide (((r.getD 0 0:Nat):Int)=((L.length - 2:Nat):Int))=true:=decide_eq_true (by omega)
  simp only [r0,r1,gB9,q1d,zn,zbU,Bool.not_true,za,Value.cells,Value.oneCell',Nat.reduceAdd,Nat.reduceSub,Nat.reduceMul,Nat.reduceLeDiff,Int.reduceEq,Nat.reduceEqDiff,zC,zi]
  refine⟨⟨by omega,by omega⟩,sr,⟨by omega,by omega⟩,sr,?_⟩
  have hab:∀ e∈es,0≤e.a∧e.a≤1000000:=by
    rw [← hEs]
    exact zoh hfrm
  refine zhe _ (fun h' x'=>zb.mono (zml aE (L.length - 2) cE es h' ((OE.row.ext x9).ext x') esl (by omega) hab) fun v h'' q=>⟨q.1,q.2⟩) ?_
  by_cases q2:((r.getD 1 0:Nat):Int)=totL es
  case neg=>
    have q2d:decide (((r.getD 1 0:Nat):Int)=totL es)=false:=decide_eq_false q2
    have e15:=zh3 c1 h1f hfrm hwr (fun hh=>q2 (hEq.1 hh).2)
    simp only [q2d,zn,zbU,Bool.not_false,za,Value.cells,Value.oneCell',Nat.reduceAdd,Nat.reduceSub,Nat.reduceMul,Nat.reduceLeDiff,Int.reduceEq,Nat.reduceEqDiff,zC,zi]
    refine zcE fun h10 x10=>?_
    have g10:=x10.get g9
    simp only [g10,za,Value.cells,Value.oneCell',Nat.reduceAdd,Nat.reduceSub,Nat.reduceMul,Nat.reduceLeDiff,Int.reduceEq,Nat.reduceEqDiff,zi]
    refine zat g10 (by simp) fun h11 g11 u11=>?_
    simp only [splice,List.take,List.drop,List.nil_append,List.append_nil,List.length_cons,List.length_nil] at g11
    simp only [g11,za,Value.cells,Value.oneCell',Nat.reduceAdd,Nat.reduceSub,Nat.reduceMul,Nat.reduceLeDiff,Int.reduceEq,Nat.reduceEqDiff,zi]
    exact⟨.inr ⟨by omega,by rw [e15]⟩,u11.ext (x0.trans (x2.trans (y9.trans x10))) (Nat.le_refl _)⟩
  have q2d:decide (((r.getD 1 0:Nat):Int)=totL es)=true:=decide_eq_true q2
  have ec:=zh8 c1 h1f hfrm hwr (hEq.2 ⟨q1,q2⟩)
  rw [hEs,← hk,← hz] at ec
  simp only [q2d,zn,zbU,Bool.not_true,za,Value.cells,Value.oneCell',Nat.reduceAdd,Nat.reduceSub,Nat.reduceMul,Nat.reduceLeDiff,Int.reduceEq,Nat.reduceEqDiff,zC,zi]
  refine zcE fun h10 x10=>?_
  have g10:=x10.get g9
  have gB10:=x10.get gB9
  by_cases hc:chk k z es=0
  case neg=>
    have hcd:decide (chk k z es=0)=false:=decide_eq_false hc
    simp only [hcd,g10,Bool.not_false,za,Value.cells,Value.oneCell',Nat.reduceAdd,Nat.reduceSub,Nat.reduceMul,Nat.reduceLeDiff,Int.reduceEq,Nat.reduceEqDiff,zi]
    refine zat g10 (by simp) fun h11 g11 u11=>?_
    simp only [splice,List.take,List.drop,List.nil_append,List.append_nil,List.length_cons,List.length_nil] at g11
    simp only [g11,za,Value.cells,Value.oneCell',Nat.reduceAdd,Nat.reduceSub,Nat.reduceMul,Nat.reduceLeDiff,Int.reduceEq,Nat.reduceEqDiff,zi]
    exact⟨.inr ⟨by omega,by rw [ec]⟩,u11.ext (x0.trans (x2.trans (y9.trans x10))) (Nat.le_refl _)⟩
  have hcd:decide (chk k z es=0)=true:=decide_eq_true hc
  simp only [hcd,g10,gB10,Bool.not_true,za,Value.cells,Value.oneCell',Nat.reduceAdd,Nat.reduceSub,Nat.reduceMul,Nat.reduceLeDiff,Int.reduceEq,Nat.reduceEqDiff,zi]
  refine zat g10 (by simp) fun h11 g11 u11=>?_
  simp only [splice,List.take,List.drop,List.nil_append,List.append_nil,List.length_cons,List.length_nil] at g11
  simp only [g11,za,Value.cells,Value.oneCell',Nat.reduceAdd,Nat.reduceSub,Nat.reduceMul,Nat.reduceLeDiff,Int.reduceEq,Nat.reduceEqDiff,zi]
  have xU:Ext h h11:=u11.ext (x0.trans (x2.trans (y9.trans x10))) (Nat.le_refl _)
  refine⟨.inl ⟨by omega,aE,L.length - 2,cE,by rw [← hk,← hz],by rw [hEs]; exact esl,?_⟩,xU⟩
  rw [hEs]
  exact (((OE.ext x9).ext x10).upd u11 (by have:=x0.size; have:=x2.size; have:=x3.size; omega)).row
end Go.Proofs.YtepaekbjoombpaaGreatDoor
end
section
namespace Go.Proofs.YtepaekbjoombpaaGreatDoor
open Go Go.Proofs Go.Eng Go.Run Tab
set_option maxRecDepth 100000
set_option linter.unusedSimpArgs false
set_option linter.unusedVariables false
set_option linter.defProp false
set_option maxHeartbeats 4000000
set_option linter.defProp false
theorem last_lst {s:ByteArray}{c:UInt8}(h:(bl s).getLast?=some c):lstB s c=true:=by
  have hne:bl s≠[]:=fun e=>by rw [e] at h; cases h
  have hl:=List.length_pos_iff.2 hne
  rw [zz] at hl
  unfold lstB
  refine decide_eq_true ⟨hl,?_⟩
  unfold at_
  rw [zbs,← zz,List.getD_eq_getElem?_getD,← List.getLast?_eq_getElem?,h]
  rfl
theorem zgu {s:ByteArray}{c:UInt8}(h:lstB s c=true):bl s=bl (s.extract 0 (s.size - 1))++[c]:=by
  have h0:0<s.size:=by
    unfold lstB at h
    exact (of_decide_eq_true h).1
  have h1:=congrArg bl ((zmq s c).1 h)
  rw [zbW] at h1
  have h2:(bl s).drop (s.size - 1)=[c]:=h1
  rw [zfH,← h2,List.take_append_drop]
theorem znX {s:ByteArray}{ws:List ByteArray}(hws:ws.map bl=FL.prt 10 (bl s))(h:lstB s 10=true):ws=lnsB s++[⟨#[]⟩]:=by
  rw [← ws_bs hws,zgu h,zj4,List.map_append]
  rfl
theorem znx {w:ByteArray}(h:zT w=true):zbx w=if rgtB w then 0 else 14:=by
  obtain⟨h3,ht,-⟩:=(zY w).1 h
  have hx:=ze5 ht
  rw [zc5 _ _ _ (by omega) (by omega)] at hx
  unfold zbx rgtB
  rw [if_neg (by omega),if_pos h]
  by_cases hc:w.extract (w.size - 1) w.size=zbw (w.extract 0 (w.size - 2))
  · rw [if_pos hc,decide_eq_true hc]; rfl
  · rw [if_neg hc,decide_eq_false hc]; rfl
end Go.Proofs.YtepaekbjoombpaaGreatDoor
end
section
namespace Go.Proofs.YtepaekbjoombpaaGreatDoor.Pt
open Go Go.Proofs Go.Run
set_option maxRecDepth 100000
noncomputable def ff2:FI:=⟨match Tryz.f2.body with | some c=>c | none=>.skip,Tryz.f2.ntmps,Tryz.f2.results.toList⟩
noncomputable def ff3:FI:=⟨match Tryz.f3.body with | some c=>c | none=>.skip,Tryz.f3.ntmps,Tryz.f3.results.toList⟩
noncomputable def ff4:FI:=⟨match Tryz.f4.body with | some c=>c | none=>.skip,Tryz.f4.ntmps,Tryz.f4.results.toList⟩
noncomputable def ff5:FI:=⟨match Tryz.f5.body with | some c=>c | none=>.skip,Tryz.f5.ntmps,Tryz.f5.results.toList⟩
noncomputable def ff6:FI:=⟨match Tryz.f6.body with | some c=>c | none=>.skip,Tryz.f6.ntmps,Tryz.f6.results.toList⟩
noncomputable def ff7:FI:=⟨match Tryz.f7.body with | some c=>c | none=>.skip,Tryz.f7.ntmps,Tryz.f7.results.toList⟩
noncomputable def ff8:FI:=⟨match Tryz.f8.body with | some c=>c | none=>.skip,Tryz.f8.ntmps,Tryz.f8.results.toList⟩
noncomputable def ff9:FI:=⟨match Tryz.f9.body with | some c=>c | none=>.skip,Tryz.f9.ntmps,Tryz.f9.results.toList⟩
noncomputable def ff10:FI:=⟨match Tryz.f10.body with | some c=>c | none=>.skip,Tryz.f10.ntmps,Tryz.f10.results.toList⟩
noncomputable def ff11:FI:=⟨match Tryz.f11.body with | some c=>c | none=>.skip,Tryz.f11.ntmps,Tryz.f11.results.toList⟩
noncomputable def ff12:FI:=⟨match Tryz.f12.body with | some c=>c | none=>.skip,Tryz.f12.ntmps,Tryz.f12.results.toList⟩
noncomputable def ff13:FI:=⟨match Tryz.f13.body with | some c=>c | none=>.skip,Tryz.f13.ntmps,Tryz.f13.results.toList⟩
noncomputable def ff14:FI:=⟨match Tryz.f14.body with | some c=>c | none=>.skip,Tryz.f14.ntmps,Tryz.f14.results.toList⟩
noncomputable def ff15:FI:=⟨match Tryz.f15.body with | some c=>c | none=>.skip,Tryz.f15.ntmps,Tryz.f15.results.toList⟩
noncomputable def ff16:FI:=⟨match Tryz.f16.body with | some c=>c | none=>.skip,Tryz.f16.ntmps,Tryz.f16.results.toList⟩
noncomputable def ff17:FI:=⟨match Tryz.f17.body with | some c=>c | none=>.skip,Tryz.f17.ntmps,Tryz.f17.results.toList⟩
noncomputable def ff18:FI:=⟨match Tryz.f18.body with | some c=>c | none=>.skip,Tryz.f18.ntmps,Tryz.f18.results.toList⟩
noncomputable def ff19:FI:=⟨match Tryz.f19.body with | some c=>c | none=>.skip,Tryz.f19.ntmps,Tryz.f19.results.toList⟩
noncomputable def ff20:FI:=⟨match Tryz.f20.body with | some c=>c | none=>.skip,Tryz.f20.ntmps,Tryz.f20.results.toList⟩
noncomputable def ff21:FI:=⟨match Tryz.f21.body with | some c=>c | none=>.skip,Tryz.f21.ntmps,Tryz.f21.results.toList⟩
noncomputable def ff22:FI:=⟨match Tryz.f22.body with | some c=>c | none=>.skip,Tryz.f22.ntmps,Tryz.f22.results.toList⟩
noncomputable def ff23:FI:=⟨match Tryz.f23.body with | some c=>c | none=>.skip,Tryz.f23.ntmps,Tryz.f23.results.toList⟩
noncomputable def ff24:FI:=⟨match Tryz.f24.body with | some c=>c | none=>.skip,Tryz.f24.ntmps,Tryz.f24.results.toList⟩
noncomputable def ff25:FI:=⟨match Tryz.f25.body with | some c=>c | none=>.skip,Tryz.f25.ntmps,Tryz.f25.results.toList⟩
noncomputable def ff26:FI:=⟨match Tryz.f26.body with | some c=>c | none=>.skip,Tryz.f26.ntmps,Tryz.f26.results.toList⟩
noncomputable def ff27:FI:=⟨match Tryz.f27.body with | some c=>c | none=>.skip,Tryz.f27.ntmps,Tryz.f27.results.toList⟩
noncomputable def ff28:FI:=⟨match Tryz.f28.body with | some c=>c | none=>.skip,Tryz.f28.ntmps,Tryz.f28.results.toList⟩
noncomputable def ff29:FI:=⟨match Tryz.f29.body with | some c=>c | none=>.skip,Tryz.f29.ntmps,Tryz.f29.results.toList⟩
noncomputable def ff30:FI:=⟨match Tryz.f30.body with | some c=>c | none=>.skip,Tryz.f30.ntmps,Tryz.f30.results.toList⟩
noncomputable def ff31:FI:=⟨match Tryz.f31.body with | some c=>c | none=>.skip,Tryz.f31.ntmps,Tryz.f31.results.toList⟩
noncomputable def ff32:FI:=⟨match Tryz.f32.body with | some c=>c | none=>.skip,Tryz.f32.ntmps,Tryz.f32.results.toList⟩
noncomputable def ff33:FI:=⟨match Tryz.f33.body with | some c=>c | none=>.skip,Tryz.f33.ntmps,Tryz.f33.results.toList⟩
noncomputable def ff34:FI:=⟨match Tryz.f34.body with | some c=>c | none=>.skip,Tryz.f34.ntmps,Tryz.f34.results.toList⟩
noncomputable def ff35:FI:=⟨match Tryz.f35.body with | some c=>c | none=>.skip,Tryz.f35.ntmps,Tryz.f35.results.toList⟩
noncomputable def ff36:FI:=⟨match Tryz.f36.body with | some c=>c | none=>.skip,Tryz.f36.ntmps,Tryz.f36.results.toList⟩
noncomputable def ff37:FI:=⟨match Tryz.f37.body with | some c=>c | none=>.skip,Tryz.f37.ntmps,Tryz.f37.results.toList⟩
noncomputable def ff38:FI:=⟨match Tryz.f38.body with | some c=>c | none=>.skip,Tryz.f38.ntmps,Tryz.f38.results.toList⟩
noncomputable def ff39:FI:=⟨match Tryz.f39.body with | some c=>c | none=>.skip,Tryz.f39.ntmps,Tryz.f39.results.toList⟩
noncomputable def ff40:FI:=⟨match Tryz.f40.body with | some c=>c | none=>.skip,Tryz.f40.ntmps,Tryz.f40.results.toList⟩
noncomputable def ff41:FI:=⟨match Tryz.f41.body with | some c=>c | none=>.skip,Tryz.f41.ntmps,Tryz.f41.results.toList⟩
noncomputable def ff42:FI:=⟨match Tryz.f42.body with | some c=>c | none=>.skip,Tryz.f42.ntmps,Tryz.f42.results.toList⟩
noncomputable def ff43:FI:=⟨match Tryz.f43.body with | some c=>c | none=>.skip,Tryz.f43.ntmps,Tryz.f43.results.toList⟩
noncomputable def ff44:FI:=⟨match Tryz.f44.body with | some c=>c | none=>.skip,Tryz.f44.ntmps,Tryz.f44.results.toList⟩
noncomputable def ff45:FI:=⟨match Tryz.f45.body with | some c=>c | none=>.skip,Tryz.f45.ntmps,Tryz.f45.results.toList⟩
noncomputable def ff46:FI:=⟨match Tryz.f46.body with | some c=>c | none=>.skip,Tryz.f46.ntmps,Tryz.f46.results.toList⟩
noncomputable def ff47:FI:=⟨match Tryz.f47.body with | some c=>c | none=>.skip,Tryz.f47.ntmps,Tryz.f47.results.toList⟩
noncomputable def ff48:FI:=⟨match Tryz.f48.body with | some c=>c | none=>.skip,Tryz.f48.ntmps,Tryz.f48.results.toList⟩
noncomputable def ff49:FI:=⟨match Tryz.f49.body with | some c=>c | none=>.skip,Tryz.f49.ntmps,Tryz.f49.results.toList⟩
noncomputable def ff50:FI:=⟨match Tryz.f50.body with | some c=>c | none=>.skip,Tryz.f50.ntmps,Tryz.f50.results.toList⟩
noncomputable def ff51:FI:=⟨match Tryz.f51.body with | some c=>c | none=>.skip,Tryz.f51.ntmps,Tryz.f51.results.toList⟩
noncomputable def ff52:FI:=⟨match Tryz.f52.body with | some c=>c | none=>.skip,Tryz.f52.ntmps,Tryz.f52.results.toList⟩
noncomputable def ff53:FI:=⟨match Tryz.f53.body with | some c=>c | none=>.skip,Tryz.f53.ntmps,Tryz.f53.results.toList⟩
noncomputable def ff54:FI:=⟨match Tryz.f54.body with | some c=>c | none=>.skip,Tryz.f54.ntmps,Tryz.f54.results.toList⟩
noncomputable def ff55:FI:=⟨match Tryz.f55.body with | some c=>c | none=>.skip,Tryz.f55.ntmps,Tryz.f55.results.toList⟩
noncomputable def ff56:FI:=⟨match Tryz.f56.body with | some c=>c | none=>.skip,Tryz.f56.ntmps,Tryz.f56.results.toList⟩
noncomputable def ff57:FI:=⟨match Tryz.f57.body with | some c=>c | none=>.skip,Tryz.f57.ntmps,Tryz.f57.results.toList⟩
noncomputable def ff58:FI:=⟨match Tryz.f58.body with | some c=>c | none=>.skip,Tryz.f58.ntmps,Tryz.f58.results.toList⟩
noncomputable def ff59:FI:=⟨match Tryz.f59.body with | some c=>c | none=>.skip,Tryz.f59.ntmps,Tryz.f59.results.toList⟩
noncomputable def ff60:FI:=⟨match Tryz.f60.body with | some c=>c | none=>.skip,Tryz.f60.ntmps,Tryz.f60.results.toList⟩
noncomputable def ff61:FI:=⟨match Tryz.f61.body with | some c=>c | none=>.skip,Tryz.f61.ntmps,Tryz.f61.results.toList⟩
noncomputable def ff62:FI:=⟨match Tryz.f62.body with | some c=>c | none=>.skip,Tryz.f62.ntmps,Tryz.f62.results.toList⟩
noncomputable def ff63:FI:=⟨match Tryz.f63.body with | some c=>c | none=>.skip,Tryz.f63.ntmps,Tryz.f63.results.toList⟩
noncomputable def ff64:FI:=⟨match Tryz.f64.body with | some c=>c | none=>.skip,Tryz.f64.ntmps,Tryz.f64.results.toList⟩
noncomputable def ff65:FI:=⟨match Tryz.f65.body with | some c=>c | none=>.skip,Tryz.f65.ntmps,Tryz.f65.results.toList⟩
noncomputable def ff66:FI:=⟨match Tryz.f66.body with | some c=>c | none=>.skip,Tryz.f66.ntmps,Tryz.f66.results.toList⟩
noncomputable def ff67:FI:=⟨match Tryz.f67.body with | some c=>c | none=>.skip,Tryz.f67.ntmps,Tryz.f67.results.toList⟩
noncomputable def ff68:FI:=⟨match Tryz.f68.body with | some c=>c | none=>.skip,Tryz.f68.ntmps,Tryz.f68.results.toList⟩
noncomputable def ff69:FI:=⟨match Tryz.f69.body with | some c=>c | none=>.skip,Tryz.f69.ntmps,Tryz.f69.results.toList⟩
noncomputable def ff70:FI:=⟨match Tryz.f70.body with | some c=>c | none=>.skip,Tryz.f70.ntmps,Tryz.f70.results.toList⟩
noncomputable def ff71:FI:=⟨match Tryz.f71.body with | some c=>c | none=>.skip,Tryz.f71.ntmps,Tryz.f71.results.toList⟩
noncomputable def ff72:FI:=⟨match Tryz.f72.body with | some c=>c | none=>.skip,Tryz.f72.ntmps,Tryz.f72.results.toList⟩
noncomputable def ff73:FI:=⟨match Tryz.f73.body with | some c=>c | none=>.skip,Tryz.f73.ntmps,Tryz.f73.results.toList⟩
noncomputable def ff74:FI:=⟨match Tryz.f74.body with | some c=>c | none=>.skip,Tryz.f74.ntmps,Tryz.f74.results.toList⟩
noncomputable def ff75:FI:=⟨match Tryz.f75.body with | some c=>c | none=>.skip,Tryz.f75.ntmps,Tryz.f75.results.toList⟩
noncomputable def ff76:FI:=⟨match Tryz.f76.body with | some c=>c | none=>.skip,Tryz.f76.ntmps,Tryz.f76.results.toList⟩
noncomputable def ff77:FI:=⟨match Tryz.f77.body with | some c=>c | none=>.skip,Tryz.f77.ntmps,Tryz.f77.results.toList⟩
noncomputable def ff78:FI:=⟨match Tryz.f78.body with | some c=>c | none=>.skip,Tryz.f78.ntmps,Tryz.f78.results.toList⟩
noncomputable def ff79:FI:=⟨match Tryz.f79.body with | some c=>c | none=>.skip,Tryz.f79.ntmps,Tryz.f79.results.toList⟩
noncomputable def ff80:FI:=⟨match Tryz.f80.body with | some c=>c | none=>.skip,Tryz.f80.ntmps,Tryz.f80.results.toList⟩
noncomputable def ff81:FI:=⟨match Tryz.f81.body with | some c=>c | none=>.skip,Tryz.f81.ntmps,Tryz.f81.results.toList⟩
noncomputable def ff82:FI:=⟨match Tryz.f82.body with | some c=>c | none=>.skip,Tryz.f82.ntmps,Tryz.f82.results.toList⟩
noncomputable def ff83:FI:=⟨match Tryz.f83.body with | some c=>c | none=>.skip,Tryz.f83.ntmps,Tryz.f83.results.toList⟩
noncomputable def ff84:FI:=⟨match Tryz.f84.body with | some c=>c | none=>.skip,Tryz.f84.ntmps,Tryz.f84.results.toList⟩
noncomputable def ff85:FI:=⟨match Tryz.f85.body with | some c=>c | none=>.skip,Tryz.f85.ntmps,Tryz.f85.results.toList⟩
noncomputable def ff86:FI:=⟨match Tryz.f86.body with | some c=>c | none=>.skip,Tryz.f86.ntmps,Tryz.f86.results.toList⟩
noncomputable def ff87:FI:=⟨match Tryz.f87.body with | some c=>c | none=>.skip,Tryz.f87.ntmps,Tryz.f87.results.toList⟩
noncomputable def ff88:FI:=⟨match Tryz.f88.body with | some c=>c | none=>.skip,Tryz.f88.ntmps,Tryz.f88.results.toList⟩
noncomputable def ff89:FI:=⟨match Tryz.f89.body with | some c=>c | none=>.skip,Tryz.f89.ntmps,Tryz.f89.results.toList⟩
noncomputable def ff90:FI:=⟨match Tryz.f90.body with | some c=>c | none=>.skip,Tryz.f90.ntmps,Tryz.f90.results.toList⟩
noncomputable def ff91:FI:=⟨match Tryz.f91.body with | some c=>c | none=>.skip,Tryz.f91.ntmps,Tryz.f91.results.toList⟩
noncomputable def ff92:FI:=⟨match Tryz.f92.body with | some c=>c | none=>.skip,Tryz.f92.ntmps,Tryz.f92.results.toList⟩
noncomputable def ff93:FI:=⟨match Tryz.f93.body with | some c=>c | none=>.skip,Tryz.f93.ntmps,Tryz.f93.results.toList⟩
noncomputable def ff94:FI:=⟨match Tryz.f94.body with | some c=>c | none=>.skip,Tryz.f94.ntmps,Tryz.f94.results.toList⟩
noncomputable def ff95:FI:=⟨match Tryz.f95.body with | some c=>c | none=>.skip,Tryz.f95.ntmps,Tryz.f95.results.toList⟩
noncomputable def ff96:FI:=⟨match Tryz.f96.body with | some c=>c | none=>.skip,Tryz.f96.ntmps,Tryz.f96.results.toList⟩
noncomputable def ff97:FI:=⟨match Tryz.f97.body with | some c=>c | none=>.skip,Tryz.f97.ntmps,Tryz.f97.results.toList⟩
noncomputable def ff98:FI:=⟨match Tryz.f98.body with | some c=>c | none=>.skip,Tryz.f98.ntmps,Tryz.f98.results.toList⟩
noncomputable def ff99:FI:=⟨match Tryz.f99.body with | some c=>c | none=>.skip,Tryz.f99.ntmps,Tryz.f99.results.toList⟩
noncomputable def ff100:FI:=⟨match Tryz.f100.body with | some c=>c | none=>.skip,Tryz.f100.ntmps,Tryz.f100.results.toList⟩
noncomputable def ff101:FI:=⟨match Tryz.f101.body with | some c=>c | none=>.skip,Tryz.f101.ntmps,Tryz.f101.results.toList⟩
noncomputable def ff102:FI:=⟨match Tryz.f102.body with | some c=>c | none=>.skip,Tryz.f102.ntmps,Tryz.f102.results.toList⟩
noncomputable def ff103:FI:=⟨match Tryz.f103.body with | some c=>c | none=>.skip,Tryz.f103.ntmps,Tryz.f103.results.toList⟩
noncomputable def ff104:FI:=⟨match Tryz.f104.body with | some c=>c | none=>.skip,Tryz.f104.ntmps,Tryz.f104.results.toList⟩
noncomputable def ff105:FI:=⟨match Tryz.f105.body with | some c=>c | none=>.skip,Tryz.f105.ntmps,Tryz.f105.results.toList⟩
noncomputable def ff106:FI:=⟨match Tryz.f106.body with | some c=>c | none=>.skip,Tryz.f106.ntmps,Tryz.f106.results.toList⟩
noncomputable def ff107:FI:=⟨match Tryz.f107.body with | some c=>c | none=>.skip,Tryz.f107.ntmps,Tryz.f107.results.toList⟩
noncomputable def ff108:FI:=⟨match Tryz.f108.body with | some c=>c | none=>.skip,Tryz.f108.ntmps,Tryz.f108.results.toList⟩
noncomputable def ff109:FI:=⟨match Tryz.f109.body with | some c=>c | none=>.skip,Tryz.f109.ntmps,Tryz.f109.results.toList⟩
noncomputable def ff111:FI:=⟨match Tryz.f111.body with | some c=>c | none=>.skip,Tryz.f111.ntmps,Tryz.f111.results.toList⟩
noncomputable def ff112:FI:=⟨match Tryz.f112.body with | some c=>c | none=>.skip,Tryz.f112.ntmps,Tryz.f112.results.toList⟩
noncomputable def ff113:FI:=⟨match Tryz.f113.body with | some c=>c | none=>.skip,Tryz.f113.ntmps,Tryz.f113.results.toList⟩
noncomputable def ff114:FI:=⟨match Tryz.f114.body with | some c=>c | none=>.skip,Tryz.f114.ntmps,Tryz.f114.results.toList⟩
noncomputable def ff115:FI:=⟨match Tryz.f115.body with | some c=>c | none=>.skip,Tryz.f115.ntmps,Tryz.f115.results.toList⟩
noncomputable def ff116:FI:=⟨match Tryz.f116.body with | some c=>c | none=>.skip,Tryz.f116.ntmps,Tryz.f116.results.toList⟩
noncomputable def ff117:FI:=⟨match Tryz.f117.body with | some c=>c | none=>.skip,Tryz.f117.ntmps,Tryz.f117.results.toList⟩
noncomputable def ff118:FI:=⟨match Tryz.f118.body with | some c=>c | none=>.skip,Tryz.f118.ntmps,Tryz.f118.results.toList⟩
noncomputable def ff119:FI:=⟨match Tryz.f119.body with | some c=>c | none=>.skip,Tryz.f119.ntmps,Tryz.f119.results.toList⟩
noncomputable def ff120:FI:=⟨match Tryz.f120.body with | some c=>c | none=>.skip,Tryz.f120.ntmps,Tryz.f120.results.toList⟩
noncomputable def ff121:FI:=⟨match Tryz.f121.body with | some c=>c | none=>.skip,Tryz.f121.ntmps,Tryz.f121.results.toList⟩
noncomputable def ff122:FI:=⟨match Tryz.f122.body with | some c=>c | none=>.skip,Tryz.f122.ntmps,Tryz.f122.results.toList⟩
noncomputable def ff123:FI:=⟨match Tryz.f123.body with | some c=>c | none=>.skip,Tryz.f123.ntmps,Tryz.f123.results.toList⟩
noncomputable def ff124:FI:=⟨match Tryz.f124.body with | some c=>c | none=>.skip,Tryz.f124.ntmps,Tryz.f124.results.toList⟩
noncomputable def ff125:FI:=⟨match Tryz.f125.body with | some c=>c | none=>.skip,Tryz.f125.ntmps,Tryz.f125.results.toList⟩
noncomputable def ff126:FI:=⟨match Tryz.f126.body with | some c=>c | none=>.skip,Tryz.f126.ntmps,Tryz.f126.results.toList⟩
noncomputable def ff127:FI:=⟨match Tryz.f127.body with | some c=>c | none=>.skip,Tryz.f127.ntmps,Tryz.f127.results.toList⟩
noncomputable def ff128:FI:=⟨match Tryz.f128.body with | some c=>c | none=>.skip,Tryz.f128.ntmps,Tryz.f128.results.toList⟩
noncomputable def ff129:FI:=⟨match Tryz.f129.body with | some c=>c | none=>.skip,Tryz.f129.ntmps,Tryz.f129.results.toList⟩
noncomputable def ff130:FI:=⟨match Tryz.f130.body with | some c=>c | none=>.skip,Tryz.f130.ntmps,Tryz.f130.results.toList⟩
noncomputable def ff131:FI:=⟨match Tryz.f131.body with | some c=>c | none=>.skip,Tryz.f131.ntmps,Tryz.f131.results.toList⟩
noncomputable def ff132:FI:=⟨match Tryz.f132.body with | some c=>c | none=>.skip,Tryz.f132.ntmps,Tryz.f132.results.toList⟩
noncomputable def ff133:FI:=⟨match Tryz.f133.body with | some c=>c | none=>.skip,Tryz.f133.ntmps,Tryz.f133.results.toList⟩
noncomputable def ff134:FI:=⟨match Tryz.f134.body with | some c=>c | none=>.skip,Tryz.f134.ntmps,Tryz.f134.results.toList⟩
noncomputable def ff135:FI:=⟨match Tryz.f135.body with | some c=>c | none=>.skip,Tryz.f135.ntmps,Tryz.f135.results.toList⟩
noncomputable def ff136:FI:=⟨match Tryz.f136.body with | some c=>c | none=>.skip,Tryz.f136.ntmps,Tryz.f136.results.toList⟩
noncomputable def ff137:FI:=⟨match Tryz.f137.body with | some c=>c | none=>.skip,Tryz.f137.ntmps,Tryz.f137.results.toList⟩
noncomputable def ff138:FI:=⟨match Tryz.f138.body with | some c=>c | none=>.skip,Tryz.f138.ntmps,Tryz.f138.results.toList⟩
noncomputable def ff139:FI:=⟨match Tryz.f139.body with | some c=>c | none=>.skip,Tryz.f139.ntmps,Tryz.f139.results.toList⟩
noncomputable def ff140:FI:=⟨match Tryz.f140.body with | some c=>c | none=>.skip,Tryz.f140.ntmps,Tryz.f140.results.toList⟩
noncomputable def ff141:FI:=⟨match Tryz.f141.body with | some c=>c | none=>.skip,Tryz.f141.ntmps,Tryz.f141.results.toList⟩
noncomputable def ff142:FI:=⟨match Tryz.f142.body with | some c=>c | none=>.skip,Tryz.f142.ntmps,Tryz.f142.results.toList⟩
noncomputable def ff143:FI:=⟨match Tryz.f143.body with | some c=>c | none=>.skip,Tryz.f143.ntmps,Tryz.f143.results.toList⟩
noncomputable def ff144:FI:=⟨match Tryz.f144.body with | some c=>c | none=>.skip,Tryz.f144.ntmps,Tryz.f144.results.toList⟩
noncomputable def ff145:FI:=⟨match Tryz.f145.body with | some c=>c | none=>.skip,Tryz.f145.ntmps,Tryz.f145.results.toList⟩
noncomputable def ff146:FI:=⟨match Tryz.f146.body with | some c=>c | none=>.skip,Tryz.f146.ntmps,Tryz.f146.results.toList⟩
noncomputable def ff148:FI:=⟨match Tryz.f148.body with | some c=>c | none=>.skip,Tryz.f148.ntmps,Tryz.f148.results.toList⟩
noncomputable def ff149:FI:=⟨match Tryz.f149.body with | some c=>c | none=>.skip,Tryz.f149.ntmps,Tryz.f149.results.toList⟩
noncomputable def ff150:FI:=⟨match Tryz.f150.body with | some c=>c | none=>.skip,Tryz.f150.ntmps,Tryz.f150.results.toList⟩
noncomputable def ff151:FI:=⟨match Tryz.f151.body with | some c=>c | none=>.skip,Tryz.f151.ntmps,Tryz.f151.results.toList⟩
noncomputable def ff152:FI:=⟨match Tryz.f152.body with | some c=>c | none=>.skip,Tryz.f152.ntmps,Tryz.f152.results.toList⟩
noncomputable def ff153:FI:=⟨match Tryz.f153.body with | some c=>c | none=>.skip,Tryz.f153.ntmps,Tryz.f153.results.toList⟩
noncomputable def ff154:FI:=⟨match Tryz.f154.body with | some c=>c | none=>.skip,Tryz.f154.ntmps,Tryz.f154.results.toList⟩
noncomputable def ff155:FI:=⟨match Tryz.f155.body with | some c=>c | none=>.skip,Tryz.f155.ntmps,Tryz.f155.results.toList⟩
noncomputable def ff156:FI:=⟨match Tryz.f156.body with | some c=>c | none=>.skip,Tryz.f156.ntmps,Tryz.f156.results.toList⟩
noncomputable def ff157:FI:=⟨match Tryz.f157.body with | some c=>c | none=>.skip,Tryz.f157.ntmps,Tryz.f157.results.toList⟩
noncomputable def ff158:FI:=⟨match Tryz.f158.body with | some c=>c | none=>.skip,Tryz.f158.ntmps,Tryz.f158.results.toList⟩
noncomputable def ff159:FI:=⟨match Tryz.f159.body with | some c=>c | none=>.skip,Tryz.f159.ntmps,Tryz.f159.results.toList⟩
noncomputable def ff160:FI:=⟨match Tryz.f160.body with | some c=>c | none=>.skip,Tryz.f160.ntmps,Tryz.f160.results.toList⟩
noncomputable def ff161:FI:=⟨match Tryz.f161.body with | some c=>c | none=>.skip,Tryz.f161.ntmps,Tryz.f161.results.toList⟩
noncomputable def ff162:FI:=⟨match Tryz.f162.body with | some c=>c | none=>.skip,Tryz.f162.ntmps,Tryz.f162.results.toList⟩
noncomputable def ff163:FI:=⟨match Tryz.f163.body with | some c=>c | none=>.skip,Tryz.f163.ntmps,Tryz.f163.results.toList⟩
noncomputable def ff164:FI:=⟨match Tryz.f164.body with | some c=>c | none=>.skip,Tryz.f164.ntmps,Tryz.f164.results.toList⟩
noncomputable def ff165:FI:=⟨match Tryz.f165.body with | some c=>c | none=>.skip,Tryz.f165.ntmps,Tryz.f165.results.toList⟩
noncomputable def ff166:FI:=⟨match Tryz.f166.body with | some c=>c | none=>.skip,Tryz.f166.ntmps,Tryz.f166.results.toList⟩
noncomputable def ff167:FI:=⟨match Tryz.f167.body with | some c=>c | none=>.skip,Tryz.f167.ntmps,Tryz.f167.results.toList⟩
noncomputable def ff168:FI:=⟨match Tryz.f168.body with | some c=>c | none=>.skip,Tryz.f168.ntmps,Tryz.f168.results.toList⟩
noncomputable def ff169:FI:=⟨match Tryz.f169.body with | some c=>c | none=>.skip,Tryz.f169.ntmps,Tryz.f169.results.toList⟩
noncomputable def ff170:FI:=⟨match Tryz.f170.body with | some c=>c | none=>.skip,Tryz.f170.ntmps,Tryz.f170.results.toList⟩
noncomputable def ff171:FI:=⟨match Tryz.f171.body with | some c=>c | none=>.skip,Tryz.f171.ntmps,Tryz.f171.results.toList⟩
noncomputable def ff172:FI:=⟨match Tryz.f172.body with | some c=>c | none=>.skip,Tryz.f172.ntmps,Tryz.f172.results.toList⟩
noncomputable def ff173:FI:=⟨match Tryz.f173.body with | some c=>c | none=>.skip,Tryz.f173.ntmps,Tryz.f173.results.toList⟩
noncomputable def ff174:FI:=⟨match Tryz.f174.body with | some c=>c | none=>.skip,Tryz.f174.ntmps,Tryz.f174.results.toList⟩
noncomputable def ff175:FI:=⟨match Tryz.f175.body with | some c=>c | none=>.skip,Tryz.f175.ntmps,Tryz.f175.results.toList⟩
noncomputable def ff177:FI:=⟨match Tryz.f177.body with | some c=>c | none=>.skip,Tryz.f177.ntmps,Tryz.f177.results.toList⟩
noncomputable def ff178:FI:=⟨match Tryz.f178.body with | some c=>c | none=>.skip,Tryz.f178.ntmps,Tryz.f178.results.toList⟩
noncomputable def ff179:FI:=⟨match Tryz.f179.body with | some c=>c | none=>.skip,Tryz.f179.ntmps,Tryz.f179.results.toList⟩
noncomputable def ff180:FI:=⟨match Tryz.f180.body with | some c=>c | none=>.skip,Tryz.f180.ntmps,Tryz.f180.results.toList⟩
noncomputable def ff181:FI:=⟨match Tryz.f181.body with | some c=>c | none=>.skip,Tryz.f181.ntmps,Tryz.f181.results.toList⟩
noncomputable def ff182:FI:=⟨match Tryz.f182.body with | some c=>c | none=>.skip,Tryz.f182.ntmps,Tryz.f182.results.toList⟩
noncomputable def ff183:FI:=⟨match Tryz.f183.body with | some c=>c | none=>.skip,Tryz.f183.ntmps,Tryz.f183.results.toList⟩
noncomputable def ff184:FI:=⟨match Tryz.f184.body with | some c=>c | none=>.skip,Tryz.f184.ntmps,Tryz.f184.results.toList⟩
noncomputable def ff185:FI:=⟨match Tryz.f185.body with | some c=>c | none=>.skip,Tryz.f185.ntmps,Tryz.f185.results.toList⟩
noncomputable def ff186:FI:=⟨match Tryz.f186.body with | some c=>c | none=>.skip,Tryz.f186.ntmps,Tryz.f186.results.toList⟩
noncomputable def ff187:FI:=⟨match Tryz.f187.body with | some c=>c | none=>.skip,Tryz.f187.ntmps,Tryz.f187.results.toList⟩
noncomputable def ff188:FI:=⟨match Tryz.f188.body with | some c=>c | none=>.skip,Tryz.f188.ntmps,Tryz.f188.results.toList⟩
noncomputable def ff189:FI:=⟨match Tryz.f189.body with | some c=>c | none=>.skip,Tryz.f189.ntmps,Tryz.f189.results.toList⟩
noncomputable def ff190:FI:=⟨match Tryz.f190.body with | some c=>c | none=>.skip,Tryz.f190.ntmps,Tryz.f190.results.toList⟩
noncomputable def ff191:FI:=⟨match Tryz.f191.body with | some c=>c | none=>.skip,Tryz.f191.ntmps,Tryz.f191.results.toList⟩
noncomputable def ff192:FI:=⟨match Tryz.f192.body with | some c=>c | none=>.skip,Tryz.f192.ntmps,Tryz.f192.results.toList⟩
noncomputable def ff193:FI:=⟨match Tryz.f193.body with | some c=>c | none=>.skip,Tryz.f193.ntmps,Tryz.f193.results.toList⟩
noncomputable def ff194:FI:=⟨match Tryz.f194.body with | some c=>c | none=>.skip,Tryz.f194.ntmps,Tryz.f194.results.toList⟩
noncomputable def ff195:FI:=⟨match Tryz.f195.body with | some c=>c | none=>.skip,Tryz.f195.ntmps,Tryz.f195.results.toList⟩
noncomputable def ff196:FI:=⟨match Tryz.f196.body with | some c=>c | none=>.skip,Tryz.f196.ntmps,Tryz.f196.results.toList⟩
noncomputable def ff197:FI:=⟨match Tryz.f197.body with | some c=>c | none=>.skip,Tryz.f197.ntmps,Tryz.f197.results.toList⟩
noncomputable def ff198:FI:=⟨match Tryz.f198.body with | some c=>c | none=>.skip,Tryz.f198.ntmps,Tryz.f198.results.toList⟩
noncomputable def ff199:FI:=⟨match Tryz.f199.body with | some c=>c | none=>.skip,Tryz.f199.ntmps,Tryz.f199.results.toList⟩
noncomputable def ff200:FI:=⟨match Tryz.f200.body with | some c=>c | none=>.skip,Tryz.f200.ntmps,Tryz.f200.results.toList⟩
noncomputable def ff201:FI:=⟨match Tryz.f201.body with | some c=>c | none=>.skip,Tryz.f201.ntmps,Tryz.f201.results.toList⟩
noncomputable def ff202:FI:=⟨match Tryz.f202.body with | some c=>c | none=>.skip,Tryz.f202.ntmps,Tryz.f202.results.toList⟩
noncomputable def ff203:FI:=⟨match Tryz.f203.body with | some c=>c | none=>.skip,Tryz.f203.ntmps,Tryz.f203.results.toList⟩
noncomputable def ff204:FI:=⟨match Tryz.f204.body with | some c=>c | none=>.skip,Tryz.f204.ntmps,Tryz.f204.results.toList⟩
noncomputable def ff205:FI:=⟨match Tryz.f205.body with | some c=>c | none=>.skip,Tryz.f205.ntmps,Tryz.f205.results.toList⟩
noncomputable def ff206:FI:=⟨match Tryz.f206.body with | some c=>c | none=>.skip,Tryz.f206.ntmps,Tryz.f206.results.toList⟩
noncomputable def ff207:FI:=⟨match Tryz.f207.body with | some c=>c | none=>.skip,Tryz.f207.ntmps,Tryz.f207.results.toList⟩
noncomputable def ff208:FI:=⟨match Tryz.f208.body with | some c=>c | none=>.skip,Tryz.f208.ntmps,Tryz.f208.results.toList⟩
noncomputable def ff210:FI:=⟨match Tryz.f210.body with | some c=>c | none=>.skip,Tryz.f210.ntmps,Tryz.f210.results.toList⟩
noncomputable def ff212:FI:=⟨match Tryz.f212.body with | some c=>c | none=>.skip,Tryz.f212.ntmps,Tryz.f212.results.toList⟩
noncomputable def ff213:FI:=⟨match Tryz.f213.body with | some c=>c | none=>.skip,Tryz.f213.ntmps,Tryz.f213.results.toList⟩
noncomputable def ff214:FI:=⟨match Tryz.f214.body with | some c=>c | none=>.skip,Tryz.f214.ntmps,Tryz.f214.results.toList⟩
noncomputable def ff215:FI:=⟨match Tryz.f215.body with | some c=>c | none=>.skip,Tryz.f215.ntmps,Tryz.f215.results.toList⟩
noncomputable def ff216:FI:=⟨match Tryz.f216.body with | some c=>c | none=>.skip,Tryz.f216.ntmps,Tryz.f216.results.toList⟩
noncomputable def ff217:FI:=⟨match Tryz.f217.body with | some c=>c | none=>.skip,Tryz.f217.ntmps,Tryz.f217.results.toList⟩
noncomputable def ff218:FI:=⟨match Tryz.f218.body with | some c=>c | none=>.skip,Tryz.f218.ntmps,Tryz.f218.results.toList⟩
noncomputable def ff219:FI:=⟨match Tryz.f219.body with | some c=>c | none=>.skip,Tryz.f219.ntmps,Tryz.f219.results.toList⟩
noncomputable def ff220:FI:=⟨match Tryz.f220.body with | some c=>c | none=>.skip,Tryz.f220.ntmps,Tryz.f220.results.toList⟩
noncomputable def ff221:FI:=⟨match Tryz.f221.body with | some c=>c | none=>.skip,Tryz.f221.ntmps,Tryz.f221.results.toList⟩
noncomputable def ff222:FI:=⟨match Tryz.f222.body with | some c=>c | none=>.skip,Tryz.f222.ntmps,Tryz.f222.results.toList⟩
noncomputable def ff223:FI:=⟨match Tryz.f223.body with | some c=>c | none=>.skip,Tryz.f223.ntmps,Tryz.f223.results.toList⟩
noncomputable def ff224:FI:=⟨match Tryz.f224.body with | some c=>c | none=>.skip,Tryz.f224.ntmps,Tryz.f224.results.toList⟩
noncomputable def ff225:FI:=⟨match Tryz.f225.body with | some c=>c | none=>.skip,Tryz.f225.ntmps,Tryz.f225.results.toList⟩
noncomputable def ff226:FI:=⟨match Tryz.f226.body with | some c=>c | none=>.skip,Tryz.f226.ntmps,Tryz.f226.results.toList⟩
noncomputable def ff227:FI:=⟨match Tryz.f227.body with | some c=>c | none=>.skip,Tryz.f227.ntmps,Tryz.f227.results.toList⟩
noncomputable def ff228:FI:=⟨match Tryz.f228.body with | some c=>c | none=>.skip,Tryz.f228.ntmps,Tryz.f228.results.toList⟩
noncomputable def ff230:FI:=⟨match Tryz.f230.body with | some c=>c | none=>.skip,Tryz.f230.ntmps,Tryz.f230.results.toList⟩
noncomputable def ff231:FI:=⟨match Tryz.f231.body with | some c=>c | none=>.skip,Tryz.f231.ntmps,Tryz.f231.results.toList⟩
noncomputable def ff232:FI:=⟨match Tryz.f232.body with | some c=>c | none=>.skip,Tryz.f232.ntmps,Tryz.f232.results.toList⟩
noncomputable def ff233:FI:=⟨match Tryz.f233.body with | some c=>c | none=>.skip,Tryz.f233.ntmps,Tryz.f233.results.toList⟩
noncomputable def ff234:FI:=⟨match Tryz.f234.body with | some c=>c | none=>.skip,Tryz.f234.ntmps,Tryz.f234.results.toList⟩
noncomputable def ff264:FI:=⟨match Tryz.f264.body with | some c=>c | none=>.skip,Tryz.f264.ntmps,Tryz.f264.results.toList⟩
noncomputable def ty:Go.Run.En (Option TI):=(.node (.node (.node (.node (.node (.node (.node (.node (.node (.leaf (some ⟨1,0,(.tup []),.other,[]⟩)) (.leaf (some ⟨1,8,.nfunc,.func,[]⟩))) (.node (.leaf (some ⟨1,8,.nfunc,.func,[]⟩)) (.leaf none))) (.node (.node (.leaf (some ⟨1,8,.nfunc,.func,[]⟩)) (.leaf none)) (.node (.leaf (some ⟨1,8,.nfunc,.func,[]⟩)) (.leaf none)))) (.node (.node (.node (.leaf (some ⟨1,8,.nfunc,.func,[]⟩)) (.leaf none)) (.node (.leaf (some ⟨1,8,.nmap,(.map 162 2),[]⟩)) (.leaf none))) (.node (.node (.leaf (some ⟨1,8,.nptr,(.ptr 150),[]⟩)) (.leaf none)) (.leaf none)))) (.node (.node (.node (.node (.leaf (some ⟨1,8,.nptr,(.ptr 273),[]⟩)) (.leaf (some ⟨0,0,(.agg []),(.strct [(0,271,0)]),[]⟩))) (.node (.leaf (some ⟨1,8,.nfunc,.func,[]⟩)) (.leaf none))) (.node (.node (.leaf (some ⟨1,8,.nfunc,.func,[]⟩)) (.leaf none)) (.leaf none))) (.node (.node (.node (.leaf (some ⟨1,8,.nfunc,.func,[]⟩)) (.leaf none)) (.node (.leaf (some ⟨256,256,(.agg (rep 256 [(.bool false)])),(.array 256 4),[]⟩)) (.leaf none))) (.node (.node (.leaf (some ⟨1,8,.nfunc,.func,[]⟩)) (.leaf none)) (.node (.leaf (some ⟨1,8,.nfunc,.func,[]⟩)) (.leaf none)))))) (.node (.node (.node (.node (.node (.leaf (some ⟨4,24,(.agg [(.int .i64 0),(.int .i64 0),(.bool false),(.int .u8 0)]),(.strct [(0,2,1),(1,3,1),(2,4,1),(3,6,1)]),[]⟩)) (.leaf none)) (.node (.leaf (some ⟨1,8,.nfunc,.func,[]⟩)) (.leaf none))) (.node (.node (.leaf (some ⟨1,8,.nfunc,.func,[]⟩)) (.leaf none)) (.node (.leaf (some ⟨1,8,.nfunc,.func,[]⟩)) (.leaf none)))) (.node (.node (.node (.leaf (some ⟨1,24,.nslice,(.slice 3),[]⟩)) (.leaf none)) (.node (.leaf (some ⟨1,8,.nfunc,.func,[]⟩)) (.leaf none))) (.node (.node (.leaf (some ⟨8,64,(.agg [(.int .i64 0),(.int .i64 0),(.int .i64 0),(.int .i64 0),(.int .i64 0),(.int .i64 0),(.int .i64 0),(.int .i64 0)]),(.array 8 2),(List.replicate 8 .i)⟩)) (.leaf none)) (.node (.leaf (some ⟨1,8,.nfunc,.func,[]⟩)) (.leaf none))))) (.node (.node (.node (.node (.leaf (some ⟨3,40,(.agg [(.int .i64 0),(.int .i64 0),.nslice]),(.strct [(0,3,1),(1,3,1),(2,22,1)]),[]⟩)) (.leaf (some ⟨11,48,(.agg [(.int .u64 0),(.int .u64 0),(.int .u32 0),(.int .u8 0),(.int .u8 0),(.int .u8 0),(.int .u8 0),.nfunc,.nptr,(.int .i32 0),(.int .i32 0)]),(.strct [(0,12,1),(1,12,1),(2,227,1),(3,275,1),(4,5,1),(5,5,1),(6,276,1),(7,277,1),(8,155,1),(9,278,1),(10,279,1)]),[]⟩))) (.node (.leaf (some ⟨1,8,.nfunc,.func,[]⟩)) (.leaf none))) (.node (.node (.leaf (some ⟨1,8,.nfunc,.func,[]⟩)) (.leaf none)) (.node (.leaf (some ⟨1,8,.nfunc,.func,[]⟩)) (.leaf none)))) (.node (.node (.leaf none) (.node (.leaf (some ⟨1,8,.nfunc,.func,[]⟩)) (.leaf none))) (.node (.node (.leaf (some ⟨1,8,.nfunc,.func,[]⟩)) (.leaf none)) (.node (.leaf (some ⟨1,8,.nptr,(.ptr 3),[]⟩)) (.leaf none))))))) (.node (.node (.node (.node (.node (.node (.leaf (some ⟨1,1,(.bool false),.bool,[]⟩)) (.leaf (some ⟨1,8,.nptr,(.ptr 262),[]⟩))) (.node (.leaf (some ⟨1,8,.nfunc,.func,[]⟩)) (.leaf none))) (.node (.leaf none) (.node (.leaf (some ⟨1,8,(.int .u64 0),(.int .u64),[]⟩)) (.leaf none)))) (.node (.node (.node (.leaf (some ⟨1,8,.nfunc,.func,[]⟩)) (.leaf none)) (.node (.leaf (some ⟨1,8,.nfunc,.func,[]⟩)) (.leaf none))) (.node (.node (.leaf (some ⟨1,8,.nfunc,.func,[]⟩)) (.leaf none)) (.node (.leaf (some ⟨1,8,.nfunc,.func,[]⟩)) (.leaf none))))) (.node (.node (.node (.node (.leaf (some ⟨1,16,.niface,.iface,[]⟩)) (.leaf (some ⟨1,1,(.int .u8 0),(.int .u8),[]⟩))) (.node (.leaf (some ⟨1,8,.nfunc,.func,[]⟩)) (.leaf none))) (.node (.node (.leaf (some ⟨1,8,.nfunc,.func,[]⟩)) (.leaf none)) (.leaf none))) (.node (.node (.node (.leaf (some ⟨1,8,.nfunc,.func,[]⟩)) (.leaf none)) (.node (.leaf (some ⟨1,8,.nfunc,.func,[]⟩)) (.leaf none))) (.node (.node (.leaf (some ⟨1,16,.niface,.iface,[]⟩)) (.leaf none)) (.node (.leaf (some ⟨1,8,(.int .u64 0),(.int .u64),[]⟩)) (.leaf none)))))) (.node (.node (.node (.node (.node (.leaf (some ⟨1,8,(.int .u64 0),(.int .u64),[]⟩)) (.leaf (some ⟨64,64,(.agg (rep 64 [(.int .u8 0)])),(.array 64 5),[]⟩))) (.node (.leaf (some ⟨1,8,.nfunc,.func,[]⟩)) (.leaf none))) (.node (.node (.leaf (some ⟨1,8,.nfunc,.func,[]⟩)) (.leaf none)) (.node (.leaf (some ⟨24,24,(.agg (rep 24 [(.int .u8 0)])),(.array 24 5),[]⟩)) (.leaf none)))) (.node (.node (.node (.leaf (some ⟨1,8,.nfunc,.func,[]⟩)) (.leaf none)) (.node (.leaf (some ⟨1,8,.nptr,(.ptr 104),[]⟩)) (.leaf none))) (.node (.node (.leaf (some ⟨1,8,.nfunc,.func,[]⟩)) (.leaf none)) (.node (.leaf (some ⟨20,160,(.agg (rep 20 [(.int .u64 0)])),(.array 20 205),[]⟩)) (.leaf none))))) (.node (.node (.node (.node (.leaf (some ⟨1,8,.nfunc,.func,[]⟩)) (.leaf none)) (.node (.leaf (some ⟨1,8,.nfunc,.func,[]⟩)) (.leaf none))) (.node (.node (.leaf (some ⟨1,8,.nfunc,.func,[]⟩)) (.leaf none)) (.leaf none))) (.node (.node (.node (.leaf (some ⟨1,8,.nfunc,.func,[]⟩)) (.leaf none)) (.leaf none)) (.node (.leaf none) (.node (.leaf (some ⟨256,256,(.agg (rep 256 [(.int .u8 0)])),(.array 256 5),[]⟩)) (.leaf none)))))))) (.node (.node (.node (.node (.node (.node (.node (.leaf (some ⟨1,8,(.int .i64 0),(.int .i64),[]⟩)) (.leaf (some ⟨1,8,.nfunc,.func,[]⟩))) (.node (.leaf (some ⟨1,8,.nfunc,.func,[]⟩)) (.leaf none))) (.node (.node (.leaf (some ⟨1,8,.nfunc,.func,[]⟩)) (.leaf none)) (.node (.leaf (some ⟨1,8,.nfunc,.func,[]⟩)) (.leaf none)))) (.node (.node (.node (.leaf (some ⟨1,8,.nfunc,.func,[]⟩)) (.leaf none)) (.node (.leaf (some ⟨1,8,(.agg [(.int .i64 0)]),(.strct [(0,3,1)]),[.i]⟩)) (.leaf none))) (.node (.node (.leaf (some ⟨1,8,.nfunc,.func,[]⟩)) (.leaf none)) (.node (.leaf (some ⟨1,8,.nfunc,.func,[]⟩)) (.leaf none))))) (.node (.node (.node (.node (.leaf (some ⟨1,8,(.agg [.nptr]),(.strct [(0,17,1)]),[]⟩)) (.leaf (some ⟨1,8,.nfunc,.func,[]⟩))) (.node (.leaf (some ⟨1,8,.nfunc,.func,[]⟩)) (.leaf none))) (.node (.node (.leaf (some ⟨1,8,.nfunc,.func,[]⟩)) (.leaf none)) (.node (.leaf (some ⟨1,8,.nfunc,.func,[]⟩)) (.leaf none)))) (.node (.node (.node (.leaf (some ⟨1,8,.nfunc,.func,[]⟩)) (.leaf none)) (.leaf none)) (.node (.node (.leaf (some ⟨2,32,(.agg [.nptr,.nslice]),(.strct [(0,113,1),(1,62,1)]),[]⟩)) (.leaf none)) (.node (.leaf (some ⟨3,48,(.agg [(.str []),(.str []),.niface]),(.strct [(0,9,1),(1,9,1),(2,117,1)]),[]⟩)) (.leaf none)))))) (.node (.node (.node (.node (.node (.leaf (some ⟨1,16,(.str []),.string,[]⟩)) (.leaf (some ⟨1,8,.nfunc,.func,[]⟩))) (.node (.leaf (some ⟨3,24,(.agg [(.int .i64 0),(.int .i64 0),(.int .i64 0)]),(.strct [(0,3,1),(1,3,1),(2,2,1)]),[]⟩)) (.leaf none))) (.node (.node (.leaf (some ⟨1,8,.nfunc,.func,[]⟩)) (.leaf none)) (.node (.leaf (some ⟨1,8,.nfunc,.func,[]⟩)) (.leaf none)))) (.node (.node (.node (.leaf (some ⟨1,8,.nfunc,.func,[]⟩)) (.leaf none)) (.node (.leaf (some ⟨1,8,.nfunc,.func,[]⟩)) (.leaf none))) (.node (.node (.leaf (some ⟨1,8,.nfunc,.func,[]⟩)) (.leaf none)) (.node (.leaf (some ⟨1,8,.nfunc,.func,[]⟩)) (.leaf none))))) (.node (.node (.node (.node (.leaf (some ⟨4,32,(.agg [(.int .i64 0),(.int .i64 0),(.int .i64 0),(.int .i64 0)]),(.strct [(0,3,1),(1,3,1),(2,3,1),(3,2,1)]),[.i,.i,.i,.i]⟩)) (.leaf none)) (.node (.leaf (some ⟨1,8,.nfunc,.func,[]⟩)) (.leaf none))) (.node (.node (.leaf (some ⟨1,8,.nfunc,.func,[]⟩)) (.leaf none)) (.node (.leaf (some ⟨1,8,.nfunc,.func,[]⟩)) (.leaf none)))) (.node (.node (.node (.leaf (some ⟨1,8,.nfunc,.func,[]⟩)) (.leaf none)) (.node (.leaf (some ⟨1,8,.nfunc,.func,[]⟩)) (.leaf none))) (.node (.node (.leaf (some ⟨1,8,.nfunc,.func,[]⟩)) (.leaf none)) (.node (.leaf (some ⟨1,8,.nfunc,.func,[]⟩)) (.leaf none))))))) (.node (.node (.node (.node (.node (.node (.leaf (some ⟨1,1,(.int .u8 0),(.int .u8),[]⟩)) (.leaf (some ⟨1,16,(.agg [(.str [])]),(.strct [(0,9,1)]),[]⟩))) (.node (.leaf (some ⟨1,8,.nfunc,.func,[]⟩)) (.leaf none))) (.node (.node (.leaf (some ⟨1,8,.nfunc,.func,[]⟩)) (.leaf none)) (.node (.leaf (some ⟨1,8,.nfunc,.func,[]⟩)) (.leaf none)))) (.node (.node (.leaf none) (.node (.leaf (some ⟨1,8,.nfunc,.func,[]⟩)) (.leaf none))) (.node (.node (.leaf (some ⟨1,8,.nfunc,.func,[]⟩)) (.leaf none)) (.node (.leaf (some ⟨1,8,.nfunc,.func,[]⟩)) (.leaf none))))) (.node (.node (.node (.node (.leaf (some ⟨1,24,.nslice,(.slice 26),[]⟩)) (.leaf (some ⟨1,4,(.int .i32 0),(.int .i32),[]⟩))) (.node (.leaf (some ⟨3,40,(.agg [(.int .i64 0),(.int .i64 0),.nslice]),(.strct [(0,24,3)]),[]⟩)) (.leaf none))) (.node (.node (.leaf (some ⟨1,8,.nfunc,.func,[]⟩)) (.leaf none)) (.node (.leaf (some ⟨1,8,.nptr,(.ptr 242),[]⟩)) (.leaf none)))) (.node (.node (.leaf none) (.node (.leaf (some ⟨1,8,.nptr,.other,[]⟩)) (.leaf none))) (.node (.leaf none) (.node (.leaf (some ⟨1,8,.nfunc,.func,[]⟩)) (.leaf none)))))) (.node (.node (.node (.node (.node (.leaf (some ⟨2,24,(.agg [(.str []),(.int .u64 0)]),(.strct [(0,9,1),(1,12,1)]),[]⟩)) (.leaf (some ⟨4,40,(.agg [.nptr,.nptr,.nptr,(.str [])]),(.strct [(0,17,1),(1,17,1),(2,17,1),(3,9,1)]),[]⟩))) (.node (.leaf (some ⟨1,8,.nfunc,.func,[]⟩)) (.leaf none))) (.node (.node (.leaf (some ⟨1,8,.nfunc,.func,[]⟩)) (.leaf none)) (.node (.leaf (some ⟨1,8,.nfunc,.func,[]⟩)) (.leaf none)))) (.node (.node (.leaf none) (.node (.leaf (some ⟨1,8,.nfunc,.func,[]⟩)) (.leaf none))) (.node (.node (.leaf (some ⟨1,8,.nfunc,.func,[]⟩)) (.leaf none)) (.node (.leaf (some ⟨1,8,.nfunc,.func,[]⟩)) (.leaf none))))) (.node (.node (.node (.leaf none) (.node (.leaf (some ⟨1,8,.nfunc,.func,[]⟩)) (.leaf none))) (.node (.node (.leaf (some ⟨1,8,.nfunc,.func,[]⟩)) (.leaf none)) (.node (.leaf (some ⟨1,8,.nfunc,.func,[]⟩)) (.leaf none)))) (.node (.node (.node (.leaf (some ⟨1,24,.nslice,(.slice 5),[]⟩)) (.leaf none)) (.leaf none)) (.node (.node (.leaf (some ⟨1,8,.nfunc,.func,[]⟩)) (.leaf none)) (.node (.leaf (some ⟨2,2,(.agg [(.int .u8 0),(.int .u8 0)]),(.strct [(0,5,1),(1,5,1)]),[]⟩)) (.leaf none))))))))) (.node (.node (.node (.node (.node (.node (.node (.node (.leaf (some ⟨1,8,.nfunc,.func,[]⟩)) (.leaf none)) (.node (.leaf (some ⟨1,8,.nfunc,.func,[]⟩)) (.leaf none))) (.node (.node (.leaf (some ⟨1,24,.nslice,(.slice 9),[]⟩)) (.leaf none)) (.node (.leaf (some ⟨1,8,.nfunc,.func,[]⟩)) (.leaf none)))) (.node (.node (.node (.leaf (some ⟨1,8,.nfunc,.func,[]⟩)) (.leaf none)) (.node (.leaf (some ⟨1,8,(.agg [(.int .i64 0)]),(.strct [(0,3,1)]),[]⟩)) (.leaf none))) (.node (.leaf none) (.node (.leaf (some ⟨1,8,.nfunc,.func,[]⟩)) (.leaf none))))) (.node (.node (.node (.node (.leaf (some ⟨1,8,.nptr,(.ptr 281),[]⟩)) (.leaf (some ⟨0,0,(.agg []),(.strct [(0,271,0)]),[]⟩))) (.node (.leaf (some ⟨1,8,.nfunc,.func,[]⟩)) (.leaf none))) (.node (.leaf none) (.node (.leaf (some ⟨1,8,.nfunc,.func,[]⟩)) (.leaf none)))) (.node (.node (.node (.leaf (some ⟨1,8,.nfunc,.func,[]⟩)) (.leaf none)) (.node (.leaf (some ⟨256,256,(.agg (rep 256 [(.bool false)])),(.array 256 4),[]⟩)) (.leaf none))) (.node (.node (.leaf (some ⟨1,8,.nptr,(.ptr 115),[]⟩)) (.leaf none)) (.node (.leaf (some ⟨3,48,(.agg [(.str []),(.str []),.niface]),(.strct [(0,9,1),(1,9,1),(2,117,1)]),[]⟩)) (.leaf none)))))) (.node (.node (.node (.node (.node (.leaf (some ⟨1,16,(.str []),.string,[]⟩)) (.leaf (some ⟨1,8,.nfunc,.func,[]⟩))) (.node (.leaf (some ⟨1,8,.nfunc,.func,[]⟩)) (.leaf none))) (.node (.node (.leaf (some ⟨1,24,.nslice,(.slice 40),[]⟩)) (.leaf none)) (.leaf none))) (.node (.node (.leaf none) (.node (.leaf (some ⟨1,8,.nfunc,.func,[]⟩)) (.leaf none))) (.node (.node (.leaf (some ⟨1,8,.nfunc,.func,[]⟩)) (.leaf none)) (.node (.leaf (some ⟨1,8,.nfunc,.func,[]⟩)) (.leaf none))))) (.node (.node (.node (.node (.leaf (some ⟨4,32,(.agg [(.int .i64 0),(.int .i64 0),(.int .i64 0),(.int .i64 0)]),(.strct [(0,3,1),(1,3,1),(2,3,1),(3,2,1)]),[]⟩)) (.leaf (some ⟨11,48,(.agg [(.int .u64 0),(.int .u64 0),(.int .u32 0),(.int .u8 0),(.int .u8 0),(.int .u8 0),(.int .u8 0),.nfunc,.nptr,(.int .i32 0),(.int .i32 0)]),(.strct [(0,12,1),(1,12,1),(2,227,1),(3,275,1),(4,5,1),(5,5,1),(6,276,1),(7,277,1),(8,155,1),(9,278,1),(10,279,1)]),[]⟩))) (.node (.leaf (some ⟨1,8,.nfunc,.func,[]⟩)) (.leaf none))) (.node (.node (.leaf (some ⟨1,8,.nfunc,.func,[]⟩)) (.leaf none)) (.node (.leaf (some ⟨1,8,.nfunc,.func,[]⟩)) (.leaf none)))) (.node (.node (.node (.leaf (some ⟨1,8,.nfunc,.func,[]⟩)) (.leaf none)) (.node (.leaf (some ⟨1,8,.nfunc,.func,[]⟩)) (.leaf none))) (.node (.node (.leaf (some ⟨1,8,.nfunc,.func,[]⟩)) (.leaf none)) (.node (.leaf (some ⟨1,8,.nfunc,.func,[]⟩)) (.leaf none))))))) (.node (.node (.node (.node (.node (.node (.leaf (some ⟨1,1,(.int .u8 0),(.int .u8),[]⟩)) (.leaf (some ⟨1,16,(.agg [(.str [])]),(.strct [(0,9,1)]),[]⟩))) (.node (.leaf (some ⟨1,8,.nfunc,.func,[]⟩)) (.leaf none))) (.node (.node (.leaf (some ⟨1,8,.nfunc,.func,[]⟩)) (.leaf none)) (.node (.leaf (some ⟨1,8,.nfunc,.func,[]⟩)) (.leaf none)))) (.node (.node (.node (.leaf (some ⟨1,24,.nslice,(.slice 2),[]⟩)) (.leaf none)) (.node (.leaf (some ⟨1,8,.nmap,(.map 162 163),[]⟩)) (.leaf none))) (.node (.node (.leaf (some ⟨1,8,.nfunc,.func,[]⟩)) (.leaf none)) (.node (.leaf (some ⟨1,8,.nfunc,.func,[]⟩)) (.leaf none))))) (.node (.node (.node (.node (.leaf (some ⟨1,4,(.int .i32 0),(.int .i32),[]⟩)) (.leaf (some ⟨1,8,.nfunc,.func,[]⟩))) (.node (.leaf (some ⟨3,40,(.agg [(.int .i64 0),(.int .i64 0),.nslice]),(.strct [(0,24,3)]),[]⟩)) (.leaf none))) (.node (.node (.leaf (some ⟨1,8,.nfunc,.func,[]⟩)) (.leaf none)) (.node (.leaf (some ⟨1,8,.nfunc,.func,[]⟩)) (.leaf none)))) (.node (.node (.node (.leaf (some ⟨1,8,.nfunc,.func,[]⟩)) (.leaf none)) (.node (.leaf (some ⟨1,8,.nptr,(.ptr 177),[]⟩)) (.leaf none))) (.node (.node (.leaf (some ⟨1,16,.niface,.iface,[]⟩)) (.leaf none)) (.node (.leaf (some ⟨1,8,.nfunc,.func,[]⟩)) (.leaf none)))))) (.node (.node (.node (.node (.node (.leaf (some ⟨2,24,(.agg [(.str []),(.int .u64 0)]),(.strct [(0,9,1),(1,12,1)]),[]⟩)) (.leaf (some ⟨4,40,(.agg [.nptr,.nptr,.nptr,(.str [])]),(.strct [(0,17,1),(1,17,1),(2,17,1),(3,9,1)]),[]⟩))) (.node (.leaf (some ⟨1,8,.nfunc,.func,[]⟩)) (.leaf none))) (.node (.node (.leaf (some ⟨1,24,.nslice,(.slice 139),[]⟩)) (.leaf none)) (.node (.leaf (some ⟨1,8,(.int .u64 0),(.int .u64),[]⟩)) (.leaf none)))) (.node (.node (.node (.leaf (some ⟨1,8,.nfunc,.func,[]⟩)) (.leaf none)) (.node (.leaf (some ⟨1,8,.nfunc,.func,[]⟩)) (.leaf none))) (.node (.node (.leaf (some ⟨1,8,.nfunc,.func,[]⟩)) (.leaf none)) (.node (.leaf (some ⟨65,65,(.agg (rep 65 [(.int .u8 0)])),(.array 65 5),[]⟩)) (.leaf none))))) (.node (.node (.node (.node (.leaf (some ⟨1,8,(.int .i64 0),(.int .i64),[]⟩)) (.leaf none)) (.node (.leaf (some ⟨1,8,.nfunc,.func,[]⟩)) (.leaf none))) (.node (.node (.leaf (some ⟨1,8,.nfunc,.func,[]⟩)) (.leaf none)) (.node (.leaf (some ⟨1,8,.nfunc,.func,[]⟩)) (.leaf none)))) (.node (.node (.node (.leaf (some ⟨1,8,.nfunc,.func,[]⟩)) (.leaf none)) (.node (.leaf (some ⟨1,24,.nslice,(.slice 163),[]⟩)) (.leaf none))) (.node (.node (.leaf (some ⟨1,8,.nfunc,.func,[]⟩)) (.leaf none)) (.node (.leaf (some ⟨2,2,(.agg [(.int .u8 0),(.int .u8 0)]),(.strct [(0,5,1),(1,5,1)]),[]⟩)) (.leaf none)))))))) (.node (.node (.node (.node (.node (.node (.node (.leaf (some ⟨1,8,(.int .i64 0),(.int .i64),[]⟩)) (.leaf (some ⟨1,8,.nfunc,.func,[]⟩))) (.node (.leaf (some ⟨1,8,.nfunc,.func,[]⟩)) (.leaf none))) (.node (.node (.leaf (some ⟨1,8,.nfunc,.func,[]⟩)) (.leaf none)) (.node (.leaf (some ⟨1,8,.nfunc,.func,[]⟩)) (.leaf none)))) (.node (.node (.node (.leaf (some ⟨1,8,.nfunc,.func,[]⟩)) (.leaf none)) (.node (.leaf (some ⟨1,24,.nslice,(.slice 162),[]⟩)) (.leaf none))) (.node (.node (.leaf (some ⟨1,8,.nfunc,.func,[]⟩)) (.leaf none)) (.node (.leaf (some ⟨1,4,(.int .u32 0),(.int .u32),[]⟩)) (.leaf none))))) (.node (.node (.node (.node (.leaf (some ⟨1,8,(.agg [.nptr]),(.strct [(0,17,1)]),[]⟩)) (.leaf (some ⟨1,1,(.int .u8 0),(.int .u8),[]⟩))) (.node (.leaf (some ⟨1,8,.nfunc,.func,[]⟩)) (.leaf none))) (.node (.leaf none) (.node (.leaf (some ⟨1,8,(.int .i64 0),(.int .i64),[]⟩)) (.leaf none)))) (.node (.node (.node (.leaf (some ⟨1,8,.nfunc,.func,[]⟩)) (.leaf none)) (.node (.leaf (some ⟨1,8,.nfunc,.func,[]⟩)) (.leaf none))) (.node (.node (.leaf (some ⟨2,32,(.agg [.nptr,.nslice]),(.strct [(0,113,1),(1,62,1)]),[]⟩)) (.leaf none)) (.node (.leaf (some ⟨1,8,.nfunc,.func,[]⟩)) (.leaf none)))))) (.node (.node (.node (.node (.node (.leaf (some ⟨1,16,(.str []),.string,[]⟩)) (.leaf (some ⟨32,32,(.agg (rep 32 [(.int .u8 0)])),(.array 32 5),[]⟩))) (.node (.leaf (some ⟨3,24,(.agg [(.int .i64 0),(.int .i64 0),(.int .i64 0)]),(.strct [(0,3,1),(1,3,1),(2,2,1)]),[]⟩)) (.leaf none))) (.node (.node (.leaf (some ⟨1,8,.nfunc,.func,[]⟩)) (.leaf none)) (.node (.leaf (some ⟨1,8,.nfunc,.func,[]⟩)) (.leaf none)))) (.node (.node (.node (.leaf (some ⟨1,8,.nfunc,.func,[]⟩)) (.leaf none)) (.node (.leaf (some ⟨1,8,.nfunc,.func,[]⟩)) (.leaf none))) (.node (.node (.leaf (some ⟨1,8,.nfunc,.func,[]⟩)) (.leaf none)) (.node (.leaf (some ⟨1,8,.nfunc,.func,[]⟩)) (.leaf none))))) (.node (.node (.node (.node (.leaf (some ⟨1,8,.nfunc,.func,[]⟩)) (.leaf none)) (.node (.leaf (some ⟨1,8,.nptr,(.ptr 5),[]⟩)) (.leaf none))) (.node (.node (.leaf (some ⟨1,8,.nfunc,.func,[]⟩)) (.leaf none)) (.node (.leaf (some ⟨1,8,(.int .i64 0),(.int .i64),[]⟩)) (.leaf none)))) (.node (.node (.node (.leaf (some ⟨1,8,.nfunc,.func,[]⟩)) (.leaf none)) (.node (.leaf (some ⟨1,8,.nfunc,.func,[]⟩)) (.leaf none))) (.node (.node (.leaf (some ⟨1,8,.nfunc,.func,[]⟩)) (.leaf none)) (.node (.leaf (some ⟨1,8,.nfunc,.func,[]⟩)) (.leaf none))))))) (.node (.node (.node (.node (.node (.node (.leaf (some ⟨4,24,(.agg [(.int .i64 0),(.int .i64 0),(.bool false),(.int .u8 0)]),(.strct [(0,2,1),(1,3,1),(2,4,1),(3,6,1)]),[]⟩)) (.leaf (some ⟨1,8,.nptr,(.ptr 244),[]⟩))) (.node (.leaf (some ⟨1,8,.nfunc,.func,[]⟩)) (.leaf none))) (.node (.node (.leaf (some ⟨1,8,.nfunc,.func,[]⟩)) (.leaf none)) (.node (.leaf (some ⟨1,8,.nfunc,.func,[]⟩)) (.leaf none)))) (.node (.node (.node (.leaf (some ⟨1,8,.nfunc,.func,[]⟩)) (.leaf none)) (.node (.leaf (some ⟨1,8,.nfunc,.func,[]⟩)) (.leaf none))) (.node (.node (.leaf (some ⟨8,64,(.agg [(.int .i64 0),(.int .i64 0),(.int .i64 0),(.int .i64 0),(.int .i64 0),(.int .i64 0),(.int .i64 0),(.int .i64 0)]),(.array 8 2),[]⟩)) (.leaf none)) (.node (.leaf (some ⟨1,8,.nfunc,.func,[]⟩)) (.leaf none))))) (.node (.node (.node (.node (.leaf (some ⟨3,40,(.agg [(.int .i64 0),(.int .i64 0),.nslice]),(.strct [(0,3,1),(1,3,1),(2,22,1)]),[]⟩)) (.leaf (some ⟨1,4,(.int .i32 0),(.int .i32),[]⟩))) (.node (.leaf (some ⟨1,8,.nfunc,.func,[]⟩)) (.leaf none))) (.node (.node (.leaf (some ⟨1,8,.nfunc,.func,[]⟩)) (.leaf none)) (.node (.leaf (some ⟨1,8,.nfunc,.func,[]⟩)) (.leaf none)))) (.node (.node (.node (.leaf (some ⟨1,8,.nfunc,.func,[]⟩)) (.leaf none)) (.node (.leaf (some ⟨1,8,.nfunc,.func,[]⟩)) (.leaf none))) (.node (.node (.leaf (some ⟨1,8,.nfunc,.func,[]⟩)) (.leaf none)) (.node (.leaf (some ⟨1,8,.nfunc,.func,[]⟩)) (.leaf none)))))) (.node (.node (.node (.node (.node (.leaf (some ⟨1,8,.nptr,(.ptr 270),[]⟩)) (.leaf (some ⟨0,0,(.agg []),(.array 0 16),[]⟩))) (.node (.leaf (some ⟨1,8,.nfunc,.func,[]⟩)) (.leaf none))) (.node (.node (.leaf (some ⟨1,8,.nfunc,.func,[]⟩)) (.leaf none)) (.node (.leaf (some ⟨1,8,.nfunc,.func,[]⟩)) (.leaf none)))) (.node (.node (.node (.leaf (some ⟨1,8,.nfunc,.func,[]⟩)) (.leaf none)) (.node (.leaf (some ⟨1,8,.nfunc,.func,[]⟩)) (.leaf none))) (.leaf none))) (.node (.node (.node (.node (.leaf (some ⟨1,8,.nfunc,.func,[]⟩)) (.leaf none)) (.node (.leaf (some ⟨1,8,.nfunc,.func,[]⟩)) (.leaf none))) (.node (.node (.leaf (some ⟨1,8,.nfunc,.func,[]⟩)) (.leaf none)) (.node (.leaf (some ⟨1,8,.nfunc,.func,[]⟩)) (.leaf none)))) (.node (.node (.node (.leaf (some ⟨1,8,.nfunc,.func,[]⟩)) (.leaf none)) (.node (.leaf (some ⟨1,8,.nfunc,.func,[]⟩)) (.leaf none))) (.node (.leaf none) (.node (.leaf (some ⟨32,32,(.agg (rep 32 [(.int .u8 0)])),(.array 16 254),[]⟩)) (.leaf none))))))))))
noncomputable def fn:Go.Run.En (Option FI):=(.node (.node (.node (.node (.node (.node (.node (.node (.leaf none) (.node (.leaf (some ff128)) (.leaf none))) (.node (.node (.leaf (some ff64)) (.leaf none)) (.node (.leaf (some ff192)) (.leaf none)))) (.node (.node (.node (.leaf (some ff32)) (.leaf none)) (.node (.leaf (some ff160)) (.leaf none))) (.node (.node (.leaf (some ff96)) (.leaf none)) (.node (.leaf (some ff224)) (.leaf none))))) (.node (.node (.node (.node (.leaf (some ff16)) (.leaf none)) (.node (.leaf (some ff144)) (.leaf none))) (.node (.node (.leaf (some ff80)) (.leaf none)) (.node (.leaf (some ff208)) (.leaf none)))) (.node (.node (.node (.leaf (some ff48)) (.leaf none)) (.leaf none)) (.node (.node (.leaf (some ff112)) (.leaf none)) (.leaf none))))) (.node (.node (.node (.node (.node (.leaf (some ff8)) (.leaf (some ff264))) (.node (.leaf (some ff136)) (.leaf none))) (.node (.node (.leaf (some ff72)) (.leaf none)) (.node (.leaf (some ff200)) (.leaf none)))) (.node (.node (.node (.leaf (some ff40)) (.leaf none)) (.node (.leaf (some ff168)) (.leaf none))) (.node (.node (.leaf (some ff104)) (.leaf none)) (.node (.leaf (some ff232)) (.leaf none))))) (.node (.node (.node (.node (.leaf (some ff24)) (.leaf none)) (.node (.leaf (some ff152)) (.leaf none))) (.node (.node (.leaf (some ff88)) (.leaf none)) (.node (.leaf (some ff216)) (.leaf none)))) (.node (.node (.node (.leaf (some ff56)) (.leaf none)) (.node (.leaf (some ff184)) (.leaf none))) (.node (.node (.leaf (some ff120)) (.leaf none)) (.leaf none)))))) (.node (.node (.node (.node (.node (.node (.leaf (some ff4)) (.leaf none)) (.node (.leaf (some ff132)) (.leaf none))) (.node (.node (.leaf (some ff68)) (.leaf none)) (.node (.leaf (some ff196)) (.leaf none)))) (.node (.node (.node (.leaf (some ff36)) (.leaf none)) (.node (.leaf (some ff164)) (.leaf none))) (.node (.node (.leaf (some ff100)) (.leaf none)) (.node (.leaf (some ff228)) (.leaf none))))) (.node (.node (.node (.node (.leaf (some ff20)) (.leaf none)) (.node (.leaf (some ff148)) (.leaf none))) (.node (.node (.leaf (some ff84)) (.leaf none)) (.node (.leaf (some ff212)) (.leaf none)))) (.node (.node (.node (.leaf (some ff52)) (.leaf none)) (.node (.leaf (some ff180)) (.leaf none))) (.node (.node (.leaf (some ff116)) (.leaf none)) (.leaf none))))) (.node (.node (.node (.node (.node (.leaf (some ff12)) (.leaf none)) (.node (.leaf (some ff140)) (.leaf none))) (.node (.node (.leaf (some ff76)) (.leaf none)) (.node (.leaf (some ff204)) (.leaf none)))) (.node (.node (.node (.leaf (some ff44)) (.leaf none)) (.node (.leaf (some ff172)) (.leaf none))) (.node (.node (.leaf (some ff108)) (.leaf none)) (.leaf none)))) (.node (.node (.node (.node (.leaf (some ff28)) (.leaf none)) (.node (.leaf (some ff156)) (.leaf none))) (.node (.node (.leaf (some ff92)) (.leaf none)) (.node (.leaf (some ff220)) (.leaf none)))) (.node (.node (.node (.leaf (some ff60)) (.leaf none)) (.node (.leaf (some ff188)) (.leaf none))) (.node (.node (.leaf (some ff124)) (.leaf none)) (.leaf none))))))) (.node (.node (.node (.node (.node (.node (.node (.leaf (some ff2)) (.leaf none)) (.node (.leaf (some ff130)) (.leaf none))) (.node (.node (.leaf (some ff66)) (.leaf none)) (.node (.leaf (some ff194)) (.leaf none)))) (.node (.node (.node (.leaf (some ff34)) (.leaf none)) (.node (.leaf (some ff162)) (.leaf none))) (.node (.node (.leaf (some ff98)) (.leaf none)) (.node (.leaf (some ff226)) (.leaf none))))) (.node (.node (.node (.node (.leaf (some ff18)) (.leaf none)) (.node (.leaf (some ff146)) (.leaf none))) (.node (.node (.leaf (some ff82)) (.leaf none)) (.node (.leaf (some ff210)) (.leaf none)))) (.node (.node (.node (.leaf (some ff50)) (.leaf none)) (.node (.leaf (some ff178)) (.leaf none))) (.node (.node (.leaf (some ff114)) (.leaf none)) (.leaf none))))) (.node (.node (.node (.node (.node (.leaf (some ff10)) (.leaf none)) (.node (.leaf (some ff138)) (.leaf none))) (.node (.node (.leaf (some ff74)) (.leaf none)) (.node (.leaf (some ff202)) (.leaf none)))) (.node (.node (.node (.leaf (some ff42)) (.leaf none)) (.node (.leaf (some ff170)) (.leaf none))) (.node (.node (.leaf (some ff106)) (.leaf none)) (.node (.leaf (some ff234)) (.leaf none))))) (.node (.node (.node (.node (.leaf (some ff26)) (.leaf none)) (.node (.leaf (some ff154)) (.leaf none))) (.node (.node (.leaf (some ff90)) (.leaf none)) (.node (.leaf (some ff218)) (.leaf none)))) (.node (.node (.node (.leaf (some ff58)) (.leaf none)) (.node (.leaf (some ff186)) (.leaf none))) (.node (.node (.leaf (some ff122)) (.leaf none)) (.leaf none)))))) (.node (.node (.node (.node (.node (.node (.leaf (some ff6)) (.leaf none)) (.node (.leaf (some ff134)) (.leaf none))) (.node (.node (.leaf (some ff70)) (.leaf none)) (.node (.leaf (some ff198)) (.leaf none)))) (.node (.node (.node (.leaf (some ff38)) (.leaf none)) (.node (.leaf (some ff166)) (.leaf none))) (.node (.node (.leaf (some ff102)) (.leaf none)) (.node (.leaf (some ff230)) (.leaf none))))) (.node (.node (.node (.node (.leaf (some ff22)) (.leaf none)) (.node (.leaf (some ff150)) (.leaf none))) (.node (.node (.leaf (some ff86)) (.leaf none)) (.node (.leaf (some ff214)) (.leaf none)))) (.node (.node (.node (.leaf (some ff54)) (.leaf none)) (.node (.leaf (some ff182)) (.leaf none))) (.node (.node (.leaf (some ff118)) (.leaf none)) (.leaf none))))) (.node (.node (.node (.node (.node (.leaf (some ff14)) (.leaf none)) (.node (.leaf (some ff142)) (.leaf none))) (.node (.node (.leaf (some ff78)) (.leaf none)) (.node (.leaf (some ff206)) (.leaf none)))) (.node (.node (.node (.leaf (some ff46)) (.leaf none)) (.node (.leaf (some ff174)) (.leaf none))) (.leaf none))) (.node (.node (.node (.node (.leaf (some ff30)) (.leaf none)) (.node (.leaf (some ff158)) (.leaf none))) (.node (.node (.leaf (some ff94)) (.leaf none)) (.node (.leaf (some ff222)) (.leaf none)))) (.node (.node (.node (.leaf (some ff62)) (.leaf none)) (.node (.leaf (some ff190)) (.leaf none))) (.node (.node (.leaf (some ff126)) (.leaf none)) (.leaf none)))))))) (.node (.node (.node (.node (.node (.node (.node (.leaf none) (.node (.leaf (some ff129)) (.leaf none))) (.node (.node (.leaf (some ff65)) (.leaf none)) (.node (.leaf (some ff193)) (.leaf none)))) (.node (.node (.node (.leaf (some ff33)) (.leaf none)) (.node (.leaf (some ff161)) (.leaf none))) (.node (.node (.leaf (some ff97)) (.leaf none)) (.node (.leaf (some ff225)) (.leaf none))))) (.node (.node (.node (.node (.leaf (some ff17)) (.leaf none)) (.node (.leaf (some ff145)) (.leaf none))) (.node (.node (.leaf (some ff81)) (.leaf none)) (.leaf none))) (.node (.node (.node (.leaf (some ff49)) (.leaf none)) (.node (.leaf (some ff177)) (.leaf none))) (.node (.node (.leaf (some ff113)) (.leaf none)) (.leaf none))))) (.node (.node (.node (.node (.node (.leaf (some ff9)) (.leaf none)) (.node (.leaf (some ff137)) (.leaf none))) (.node (.node (.leaf (some ff73)) (.leaf none)) (.node (.leaf (some ff201)) (.leaf none)))) (.node (.node (.node (.leaf (some ff41)) (.leaf none)) (.node (.leaf (some ff169)) (.leaf none))) (.node (.node (.leaf (some ff105)) (.leaf none)) (.node (.leaf (some ff233)) (.leaf none))))) (.node (.node (.node (.node (.leaf (some ff25)) (.leaf none)) (.node (.leaf (some ff153)) (.leaf none))) (.node (.node (.leaf (some ff89)) (.leaf none)) (.node (.leaf (some ff217)) (.leaf none)))) (.node (.node (.node (.leaf (some ff57)) (.leaf none)) (.node (.leaf (some ff185)) (.leaf none))) (.node (.node (.leaf (some ff121)) (.leaf none)) (.leaf none)))))) (.node (.node (.node (.node (.node (.node (.leaf (some ff5)) (.leaf none)) (.node (.leaf (some ff133)) (.leaf none))) (.node (.node (.leaf (some ff69)) (.leaf none)) (.node (.leaf (some ff197)) (.leaf none)))) (.node (.node (.node (.leaf (some ff37)) (.leaf none)) (.node (.leaf (some ff165)) (.leaf none))) (.node (.node (.leaf (some ff101)) (.leaf none)) (.leaf none)))) (.node (.node (.node (.node (.leaf (some ff21)) (.leaf none)) (.node (.leaf (some ff149)) (.leaf none))) (.node (.node (.leaf (some ff85)) (.leaf none)) (.node (.leaf (some ff213)) (.leaf none)))) (.node (.node (.node (.leaf (some ff53)) (.leaf none)) (.node (.leaf (some ff181)) (.leaf none))) (.node (.node (.leaf (some ff117)) (.leaf none)) (.leaf none))))) (.node (.node (.node (.node (.node (.leaf (some ff13)) (.leaf none)) (.node (.leaf (some ff141)) (.leaf none))) (.node (.node (.leaf (some ff77)) (.leaf none)) (.node (.leaf (some ff205)) (.leaf none)))) (.node (.node (.node (.leaf (some ff45)) (.leaf none)) (.node (.leaf (some ff173)) (.leaf none))) (.node (.node (.leaf (some ff109)) (.leaf none)) (.leaf none)))) (.node (.node (.node (.node (.leaf (some ff29)) (.leaf none)) (.node (.leaf (some ff157)) (.leaf none))) (.node (.node (.leaf (some ff93)) (.leaf none)) (.node (.leaf (some ff221)) (.leaf none)))) (.node (.node (.node (.leaf (some ff61)) (.leaf none)) (.node (.leaf (some ff189)) (.leaf none))) (.node (.node (.leaf (some ff125)) (.leaf none)) (.leaf none))))))) (.node (.node (.node (.node (.node (.node (.node (.leaf (some ff3)) (.leaf none)) (.node (.leaf (some ff131)) (.leaf none))) (.node (.node (.leaf (some ff67)) (.leaf none)) (.node (.leaf (some ff195)) (.leaf none)))) (.node (.node (.node (.leaf (some ff35)) (.leaf none)) (.node (.leaf (some ff163)) (.leaf none))) (.node (.node (.leaf (some ff99)) (.leaf none)) (.node (.leaf (some ff227)) (.leaf none))))) (.node (.node (.node (.node (.leaf (some ff19)) (.leaf none)) (.leaf none)) (.node (.node (.leaf (some ff83)) (.leaf none)) (.leaf none))) (.node (.node (.node (.leaf (some ff51)) (.leaf none)) (.node (.leaf (some ff179)) (.leaf none))) (.node (.node (.leaf (some ff115)) (.leaf none)) (.leaf none))))) (.node (.node (.node (.node (.node (.leaf (some ff11)) (.leaf none)) (.node (.leaf (some ff139)) (.leaf none))) (.node (.node (.leaf (some ff75)) (.leaf none)) (.node (.leaf (some ff203)) (.leaf none)))) (.node (.node (.node (.leaf (some ff43)) (.leaf none)) (.node (.leaf (some ff171)) (.leaf none))) (.node (.node (.leaf (some ff107)) (.leaf none)) (.leaf none)))) (.node (.node (.node (.node (.leaf (some ff27)) (.leaf none)) (.node (.leaf (some ff155)) (.leaf none))) (.node (.node (.leaf (some ff91)) (.leaf none)) (.node (.leaf (some ff219)) (.leaf none)))) (.node (.node (.node (.leaf (some ff59)) (.leaf none)) (.node (.leaf (some ff187)) (.leaf none))) (.node (.node (.leaf (some ff123)) (.leaf none)) (.leaf none)))))) (.node (.node (.node (.node (.node (.node (.leaf (some ff7)) (.leaf none)) (.node (.leaf (some ff135)) (.leaf none))) (.node (.node (.leaf (some ff71)) (.leaf none)) (.node (.leaf (some ff199)) (.leaf none)))) (.node (.node (.node (.leaf (some ff39)) (.leaf none)) (.node (.leaf (some ff167)) (.leaf none))) (.node (.node (.leaf (some ff103)) (.leaf none)) (.node (.leaf (some ff231)) (.leaf none))))) (.node (.node (.node (.node (.leaf (some ff23)) (.leaf none)) (.node (.leaf (some ff151)) (.leaf none))) (.node (.node (.leaf (some ff87)) (.leaf none)) (.node (.leaf (some ff215)) (.leaf none)))) (.node (.node (.node (.leaf (some ff55)) (.leaf none)) (.node (.leaf (some ff183)) (.leaf none))) (.node (.node (.leaf (some ff119)) (.leaf none)) (.leaf none))))) (.node (.node (.node (.node (.node (.leaf (some ff15)) (.leaf none)) (.node (.leaf (some ff143)) (.leaf none))) (.node (.node (.leaf (some ff79)) (.leaf none)) (.node (.leaf (some ff207)) (.leaf none)))) (.node (.node (.node (.leaf (some ff47)) (.leaf none)) (.node (.leaf (some ff175)) (.leaf none))) (.node (.node (.leaf (some ff111)) (.leaf none)) (.leaf none)))) (.node (.node (.node (.node (.leaf (some ff31)) (.leaf none)) (.node (.leaf (some ff159)) (.leaf none))) (.node (.node (.leaf (some ff95)) (.leaf none)) (.node (.leaf (some ff223)) (.leaf none)))) (.node (.node (.node (.leaf (some ff63)) (.leaf none)) (.node (.leaf (some ff191)) (.leaf none))) (.node (.node (.leaf (some ff127)) (.leaf none)) (.leaf none)))))))))
noncomputable def ext (f:Nat):X:=match f with | 117=>.cpy 115 | 176=>.cnt | 209=>.mnz 5 | 229=>.idx | _=>.no
noncomputable def pr:Pr:=⟨fun t=>Run.ite (Nat.ble (Nat.succ t) 512) (Go.Run.En.get (Pa.of 9 t) ty) none,fun f=>Run.ite (Nat.ble (Nat.succ f) 512) (Go.Run.En.get (Pa.of 9 f) fn) none,fun _=>0,ext⟩
end Go.Proofs.YtepaekbjoombpaaGreatDoor.Pt
end
