/- Texts joined by pack.py: lemmas for YtepaekbjoombpaaGreatDoorSettles. No condition. -/
import Derived.Test.YtepaekbjoombpaaGreatDoorPE11
import Derived.Shelf.Sort.Plain
import Derived.Ground.Names2Prog
import Derived.Shelf.Slices.In.SortNone
import Derived.Test.YtepaekbjoombpaaGreatDoorProg
set_option linter.unusedSimpArgs false
set_option linter.unusedVariables false
set_option linter.defProp false
section
namespace Go.Proofs.YtepaekbjoombpaaGreatDoor
open Go Go.Proofs Go.Eng Go.Run Tab
set_option maxRecDepth 100000
set_option linter.unusedSimpArgs false
set_option linter.unusedVariables false
set_option linter.defProp false
set_option maxHeartbeats 4000000
structure Pm where
  f:Int
  t:Int
  a:Int
def pmV (p:Pm):List Value:=[.int .i64 p.f,.int .i64 p.t,.int .i64 p.a]
def pmsV (ps:List Pm):List Value:=ps.flatMap pmV
theorem znu (ps qs:List Pm):pmsV (ps++qs)=pmsV ps++pmsV qs:=by simp [pmsV]
theorem zaI (ps:List Pm):(pmsV ps).length=ps.length*3:=by
  induction ps with
  | nil=>rfl
  | cons p ps ih=>
    show (pmV p++pmsV ps).length=_
    rw [List.length_append,ih]
    simp [pmV]; omega
theorem zkY:∀ (ps:List Pm) (j:Nat),(pmsV ps).drop (j*3)=pmsV (ps.drop j)
  | ps,0=>by simp
  | [],j+1=>by simp [pmsV]
  | p::ps,j+1=>by
    have h2:(pmV p++pmsV ps).drop 3=pmsV ps:=by simp [pmV]
    show (pmV p++pmsV ps).drop ((j+1)*3)=pmsV (ps.drop j)
    rw [show (j+1)*3=3+j*3 by omega,← List.drop_drop,h2,zkY ps j]
theorem zmE (ps:List Pm)(j:Nat)(hj:j<ps.length):((pmsV ps).drop (j*3)).take 3=pmV ps[j]:=by
  rw [zkY,List.drop_eq_getElem_cons hj]
  show (pmV ps[j]++pmsV _).take 3=_
  simp [pmV]
theorem rowP {h:Eng.Heap}{a:Option Addr}{ps:List Pm}(hr:Row h a (pmsV ps)){i:Nat}(hi:i<ps.length):zaK h (eltP a (i*3)) 3=some [.int .i64 ps[i].f,.int .i64 ps[i].t,.int .i64 ps[i].a]:=by
  rw [hr.cells (j:=i*3) (n:=3) (by rw [zaI]; omega) (by decide),zmE ps i hi]; rfl
def okP (acc:Int)(p:Pm):Prop:=(0≤p.f∧p.f<acc)∧(0≤p.t∧p.t<acc)∧1≤p.a∧p.a≤20000
instance (acc:Int) (p:Pm):Decidable (okP acc p):=by unfold okP; infer_instance
def pmE (day:Int)(p:Pm):En:=⟨day,p.f,p.t,p.a⟩
def aft (es:List En)(day:Int)(ps:List Pm):List En:=es++ps.map (pmE day)
theorem zlD {es:List En}{day:Int}{ps:List Pm}{i:Nat}(hi:i<ps.length):aft es day (ps.take (i+1))=aft es day (ps.take i)++[pmE day ps[i]]:=by
  unfold aft
  rw [List.take_add_one,List.getElem?_eq_getElem hi,List.map_append,List.append_assoc]
  rfl
theorem zov (es:List En)(day:Int):aft es day []=es:=by simp [aft]
theorem amt_pm (day i:Int)(p:Pm):amt day i (pmE day p)=(if p.t=i then p.a else 0) - (if p.f=i then p.a else 0):=by
  unfold amt
  rw [if_pos (by show day≤day; omega)]
  rfl
theorem ziq {acc:Int}(day i:Int):∀ {ps:List Pm},(∀ p∈ps,okP acc p)→-(20000*(ps.length:Int))≤balA (ps.map (pmE day)) day i∧balA (ps.map (pmE day)) day i≤20000*(ps.length:Int)
  | [],_=>by simp [zh7]
  | p::ps,h=>by
    have ih:=ziq day i (ps:=ps) fun q hq=>h q (List.mem_cons_of_mem _ hq)
    have h1:=(h p List.mem_cons_self).2.2
    rw [List.map_cons,zb0,amt_pm,List.length_cons]
    have e:(20000:Int)*((ps.length+1:Nat):Int)=20000*(ps.length:Int)+20000:=by omega
    rw [e]
    split <;> split <;> omega
theorem zkP {acc:Int}{es:List En}{ps:List Pm}(day i:Int)(hok:∀ e∈es,okE acc e)(hl:es.length≤20)(hp:∀ p∈ps,okP acc p)(hm:ps.length≤20):-420000≤balA (aft es day ps) day i∧balA (aft es day ps) day i≤420000:=by
  have h1:=zbG day i hok
  have h2:=ziq day i hp
  unfold aft
  rw [zde]
  omega
theorem zqW {k:Nat}{es:List En}{day:Int}{i:Nat}(hf:∀ e∈es,(0≤e.f∧e.f<(k:Int))∧0≤e.t∧e.t<(k:Int))(hi:k≤i):balA es day (i:Int)=0:=by
  induction es with
  | nil=>rfl
  | cons e es ih=>
    have h1:=hf e List.mem_cons_self
    rw [zb0,ih fun x hx=>hf x (List.mem_cons_of_mem _ hx)]
    unfold amt
    rw [if_neg (show ¬ e.t=(i:Int) by omega),if_neg (show ¬ e.f=(i:Int) by omega)]
    split <;> rfl
noncomputable def cpy (acc cl:Int)(es:List En)(day:Int)(ps:List Pm):Int × Int:=
  open Classical in
  if opn acc cl es [day]≠0 then (0,opn acc cl es [day])
  else if 20<ps.length then (0,6)
  else if ¬ ∀ p∈ps,okP acc p then (0,3)
  else if ∃ p∈ps,p.f=p.t then (0,16)
  else if ¬ ∀ i:Nat,i<8→balA (aft es day ps) day (i:Int)=0 then (0,25)
  else ((ps.length:Int),0)
noncomputable def cpyV (acc cl:Int)(es:List En)(day:Int)(ps:List Pm):Value:=.tuple #[.int .i64 (cpy acc cl es day ps).1,.int .i64 (cpy acc cl es day ps).2]
theorem zm1 {acc cl:Int}{es:List En}{day:Int}{ps:List Pm}(h1:opn acc cl es [day]=0)(h2:ps.length≤20)(h3:∀ p∈ps,okP acc p)(h4:∀ p∈ps,p.f≠p.t)(h5:∀ i:Nat,i<8→balA (aft es day ps) day (i:Int)=0):cpy acc cl es day ps=((ps.length:Int),0):=by
  unfold cpy
  rw [if_neg (by simpa using h1),if_neg (by omega),if_neg (fun h=>h h3),if_neg (by rintro⟨p,hp,he⟩; exact h4 p hp he),if_neg (fun h=>h h5)]
def toP (p:Pm):LS.P:=⟨p.f.toNat,p.t.toNat,p.a⟩
theorem zkl {acc day:Int}:∀ {ps:List Pm} (l:Nat→Int),(∀ p∈ps,okP acc p)→∀ i,(ps.map toP).foldl LS.give l i=l i+balA (ps.map (pmE day)) day (i:Int)
  | [],l,_,i=>by
    show l i=l i+balA [] day i
    rw [zh7]; omega
  | p::ps,l,h,i=>by
    have ih:=zkl (day:=day) (ps:=ps) (LS.give l (toP p)) (fun q hq=>h q (List.mem_cons_of_mem _ hq)) i
    have h1:=h p List.mem_cons_self
    rw [List.map_cons,List.foldl_cons,ih,List.map_cons,zb0,amt_pm]
    unfold LS.give toP
    have q1:(i=p.f.toNat)=(p.f=(i:Int)):=propext (by have:=h1.1; omega)
    have q2:(i=p.t.toNat)=(p.t=(i:Int)):=propext (by have:=h1.2.1; omega)
    simp only [q1,q2]
    split <;> split <;> omega
theorem zmD {es:List En}{day:Int}{i:Nat}(hi:i<8):l8 es day i=balA es day (i:Int):=zL es day hi
def chL (l:Nat→Int):List Nat→List LS.P
  | []=>[]
  | a::bs=>LS.chn l a (l a) bs
def pysL (l:Nat→Int)(gs:List (List Nat)):List LS.P:=gs.flatMap (chL l)
theorem zl7 (l:Nat→Int):∀ g:List Nat,LS.tot l g=LS.lsum l g
  | []=>rfl
  | a::g=>by rw [LS.tot,LS.lsum,zl7 l g]
theorem znd (l:Nat→Int)(g:List Nat)(c:Nat→Int)(hn:g.Nodup)(hc:∀ i∈g,c i=l i)(hz:LS.lsum l g=0)(i:Nat):(chL l g).foldl LS.give c i=if i∈g then 0 else c i:=by
  match g,hn,hc,hz with
  | [],_,_,_=>rw [if_neg List.not_mem_nil]; rfl
  | a::bs,hn,hc,hz=>
    rw [LS.lsum] at hz
    exact LS.zhw l bs a (l a) c hn (hc a List.mem_cons_self) (fun i hi=>hc i (List.mem_cons_of_mem _ hi)) (by rw [zl7]; exact hz) i
theorem zhA (l:Nat→Int):∀ (gs:List (List Nat)) (c:Nat→Int),gs.flatten.Nodup→(∀ g∈gs,∀ i∈g,c i=l i)→(∀ g∈gs,LS.lsum l g=0)→∀ i,(pysL l gs).foldl LS.give c i=if i∈gs.flatten then 0 else c i
  | [],c,_,_,_,i=>by
    rw [List.flatten_nil,if_neg List.not_mem_nil]; rfl
  | g::gs,c,hn,hc,hz,i=>by
    rw [List.flatten_cons,List.nodup_append] at hn
    obtain⟨n1,n2,n3⟩:=hn
    have h1:=znd l g c n1 (hc g List.mem_cons_self) (hz g List.mem_cons_self)
    have ih:=zhA l gs ((chL l g).foldl LS.give c) n2 (fun g' hg' j hj=>by
      rw [h1,if_neg (fun h=>n3 j h j (List.mem_flatten.2 ⟨g',hg',hj⟩) rfl)]
      exact hc g' (List.mem_cons_of_mem _ hg') j hj) (fun g' hg'=>hz g' (List.mem_cons_of_mem _ hg')) i
    show (chL l g++pysL l gs).foldl LS.give c i=_
    rw [List.foldl_append,ih,h1,List.flatten_cons]
    by_cases h2:i∈gs.flatten
    · rw [if_pos h2,if_pos (List.mem_append.2 (.inr h2))]
    · rw [if_neg h2]
      by_cases h3:i∈g
      · rw [if_pos h3,if_pos (List.mem_append.2 (.inl h3))]
      · rw [if_neg h3,if_neg (fun h=>(List.mem_append.1 h).elim h3 h2)]
theorem ziv (l:Nat→Int)(g:List Nat)(h:g≠[]):(chL l g).length+1=g.length:=by
  match g,h with
  | a::bs,_=>show (LS.chn l a (l a) bs).length+1=_; rw [LS.ziW,List.length_cons]
theorem zhD (l:Nat→Int):∀ gs:List (List Nat),(∀ g∈gs,g≠[])→(pysL l gs).length+gs.length=gs.flatten.length
  | [],_=>rfl
  | g::gs,h=>by
    have ih:=zhD l gs fun g' hg'=>h g' (List.mem_cons_of_mem _ hg')
    have h1:=ziv l g (h g List.mem_cons_self)
    show (chL l g++pysL l gs).length+_=_
    rw [List.length_append,List.length_cons,List.flatten_cons,List.length_append]
    omega
theorem znZ (l:Nat→Int):∀ (bs:List Nat) (a:Nat) (x:Int),LS.chn l a x bs=(List.range bs.length).map fun k=>LS.pay ((a::bs).getD k 0) ((a::bs).getD (k+1) 0) (x+LS.lsum l (bs.take k))
  | [],_,_=>rfl
  | b::bs,a,x=>by
    rw [LS.chn,znZ l bs b,List.length_cons,List.range_succ_eq_map,List.map_cons,List.map_map]
    congr 1
    · show _=LS.pay a b (x+0)
      rw [Int.add_zero]
    · refine List.map_congr_left fun k _=>?_
      show _=LS.pay ((b::bs).getD k 0) ((b::bs).getD (k+1) 0) (x+LS.lsum l ((b::bs).take (k+1)))
      rw [List.take_succ_cons,LS.lsum]
      congr 1
      omega
def prL (l:Nat→Int)(g:List Nat)(k:Nat):LS.P:=LS.pay (g.getD k 0) (g.getD (k+1) 0) (LS.lsum l (g.take (k+1)))
theorem zoK (l:Nat→Int)(g:List Nat):chL l g=(List.range (g.length - 1)).map (prL l g):=by
  match g with
  | []=>rfl
  | a::bs=>
    show LS.chn l a (l a) bs=_
    rw [znZ]
    refine List.map_congr_left fun k _=>?_
    unfold prL
    rw [List.take_succ_cons,LS.lsum]
theorem zhU (p:Nat):∀ (k j:Nat),∃ m,m≤k∧(acc p k).take j=acc p m
  | 0,j=>⟨0,Nat.le_refl _,by show List.take j []=[]; simp⟩
  | k+1,j=>by
    by_cases h:j≤(acc p k).length
    · obtain⟨m,h1,h2⟩:=zhU p k j
      exact⟨m,by omega,by rw [zcw,List.take_append_of_le_length h,h2]⟩
    · refine⟨k+1,Nat.le_refl _,List.take_of_length_le ?_⟩
      rw [zcw,List.length_append]
      split
      · rw [List.length_singleton]; omega
      · rw [List.length_nil]; omega
theorem zfu (l:Nat→Int)(p:Nat):∀ m,LS.lsum l (acc p m)=LS.sm (fun i=>if p.testBit i then l i else 0) m
  | 0=>rfl
  | m+1=>by
    rw [zcw,LS.zbN,zfu l p m,LS.sm]
    congr 1
    cases h:p.testBit m <;> simp [LS.lsum]
def cutS (p m:Nat):Nat:=LS.msk (fun i=>p.testBit i&&decide (i<m)) 8
theorem zrO {l:Nat→Int}{p m:Nat}(hm:m≤8):LS.zero l 8 (cutS p m)↔LS.lsum l (acc p m)=0:=by
  unfold LS.zero
  have e:LS.sm (fun i=>if (cutS p m).testBit i then l i else 0) 8=LS.lsum l (acc p m):=by
    rw [zfu]
    have h1:=zga (F:=fun i=>if (cutS p m).testBit i then l i else 0) (k:=m) (fun i hi=>by
      show (if (cutS p m).testBit i then l i else 0)=0
      rw [cutS,LS.zaU,decide_eq_false (show ¬ i<m by omega)]; simp) (8 - m)
    rw [show m+(8 - m)=8 by omega] at h1
    rw [h1]
    refine LS.zbu fun i hi=>?_
    rw [cutS,LS.zaU,decide_eq_true hi,decide_eq_true (show i<8 by omega)]
    simp
  rw [e]
theorem zlx {A:Nat}(Q:Nat→Bool){day:Int}:∀ {es:List En},(∀ e∈es,okE A e)→-(1000*(es.length:Int))≤LS.sm (fun i=>if Q i then balA es day (i:Int) else 0) 8∧LS.sm (fun i=>if Q i then balA es day (i:Int) else 0) 8≤1000*(es.length:Int)
  | [],_=>by
    rw [LS.zjM fun i _=>by rw [zh7]; simp]
    simp
  | e::es,h=>by
    have ih:=zlx Q (day:=day) (es:=es) fun x hx=>h x (List.mem_cons_of_mem _ hx)
    have h1:=h e List.mem_cons_self
    obtain⟨_,hf,ht,ha⟩:=h1
    have e1:∀ i,i<8→(if Q i then balA (e::es) day (i:Int) else 0)=(if Q i then balA es day (i:Int) else 0)+((if i=e.t.toNat then (if e.d≤day∧Q e.t.toNat then e.a else 0) else 0)+(if i=e.f.toNat then (if e.d≤day∧Q e.f.toNat then -e.a else 0) else 0)):=fun i _=>by
      have q1:(e.t=(i:Int))=(i=e.t.toNat):=propext (by omega)
      have q2:(e.f=(i:Int))=(i=e.f.toNat):=propext (by omega)
      rw [zb0]
      unfold amt
      simp only [q1,q2]
      by_cases hd:e.d≤day
      · by_cases a1:i=e.t.toNat <;> by_cases a2:i=e.f.toNat
        · rw [← a1,← a2]; simp only [if_true,hd,true_and]; split <;> omega
        · rw [← a1]; simp only [if_true,hd,true_and,a2,if_false]; split <;> omega
        · rw [← a2]; simp only [if_true,hd,true_and,a1,if_false]; split <;> omega
        · simp only [a1,a2,if_false,hd,if_true]; split <;> omega
      · simp only [hd,if_false,false_and,ite_self]
        split <;> omega
    rw [LS.zbu e1,LS.ze0,LS.ze0,LS.zf6,LS.zf6,List.length_cons]
    have e2:(1000:Int)*((es.length+1:Nat):Int)=1000*(es.length:Int)+1000:=by omega
    rw [e2]
    have b1:-1000≤(if e.t.toNat<8 then (if e.d≤day∧Q e.t.toNat=true then e.a else 0) else 0)+(if e.f.toNat<8 then (if e.d≤day∧Q e.f.toNat=true then -e.a else 0) else 0)∧(if e.t.toNat<8 then (if e.d≤day∧Q e.t.toNat=true then e.a else 0) else 0)+(if e.f.toNat<8 then (if e.d≤day∧Q e.f.toNat=true then -e.a else 0) else 0)≤1000:=by
      repeat' split
      all_goals omega
    omega
end Go.Proofs.YtepaekbjoombpaaGreatDoor
end
section
namespace Go.Proofs.YtepaekbjoombpaaGreatDoor
open Go Go.Proofs Go.Eng Go.Run Tab
set_option maxRecDepth 100000
set_option linter.unusedSimpArgs false
set_option linter.unusedVariables false
set_option linter.defProp false
set_option maxHeartbeats 4000000
set_option linter.defProp false
def zba:=(And.intro (And.intro (And.intro (And.intro @zeU (And.intro @zja @agg2)) (And.intro @zbV (And.intro @agg3 @ziO))) (And.intro (And.intro @by3 (And.intro @zg8 @zhf)) (And.intro @zju (And.intro @ze7 @zgc)))) (And.intro (And.intro (And.intro @inf2 (And.intro @zbS @inf3)) (And.intro @zhb (And.intro @ziL @sz2))) (And.intro (And.intro @sz24 (And.intro @sz3 @zdZ)) (And.intro (And.intro @zhj @zbH) (And.intro @Tryz.underlying40 @Tryz.underlying77)))))
def zfj:=(And.intro (And.intro (And.intro @agg2 (And.intro @agg3 @by3)) (And.intro @zg8 (And.intro @zhf @zju))) (And.intro (And.intro @zel (And.intro @inf2 @inf3)) (And.intro (And.intro @sz2 @sz3) (And.intro @zbH @Tryz.underlying40))))
def P1Fs106:=(And.intro (And.intro @agg3 @zg8) (And.intro @zhf (And.intro @inf3 @sz3)))
def ze5:=(And.intro (And.intro @zja @ziO) (And.intro @zgc (And.intro @ziL @Tryz.underlying77)))
theorem zpn (acc cl:Int)(sl:Value)(p:Pm)(b:Nat)(h:Eng.Heap)(hb:h[b]?=some (.cells #[.int .i64 acc,.int .i64 cl,sl] 24))(ha:2≤acc∧acc≤8) :
    zb Tryz.prog 104 #[.agg #[.int .i64 p.f,.int .i64 p.t,.int .i64 p.a],.pointer (some ⟨b,0,none⟩)] h (fun v h'=>v=.bool (!decide (okP acc p))∧Ext h h'):=by
  (refine ze Tryz.func104 rfl bod104 ?_; simp only [Tryz.ntmps104,Tryz.results104,za,zh,splice,Value.cells,Value.oneCell',Nat.reduceAdd,Nat.reduceSub,Nat.reduceMul,Nat.reduceLeDiff,Int.reduceEq,Nat.reduceEqDiff,zfj])
  have hne:¬ (b=h.size):=by have:=zt hb; omega
  have q2:=zu (h:=h) (o:=.cells #[.int .i64 p.f,.int .i64 p.t,.int .i64 p.a] 139)
  simp only [hne,hb,if_false,splice,List.take,List.drop,List.nil_append,List.cons_append,List.append_nil,List.length_cons,List.length_nil,Nat.zero_add,Nat.reduceAdd,Nat.reduceLeDiff,if_true,za,Value.cells,Value.oneCell',Nat.reduceAdd,Nat.reduceSub,Nat.reduceMul,Nat.reduceLeDiff,Int.reduceEq,Nat.reduceEqDiff,zfj]
  refine⟨by rw [zf]; omega,?_⟩
  refine zb.mono (zdc 0 (acc - 1) _ 2 2 [p.f,p.t] _ (zky pn1) (by omega)) ?_
  rintro v h2 ⟨rfl,x2⟩
  have y2:=x2.of_push.of_push
  have q3:=x2.get (zaO q2)
  by_cases hf:(0≤p.f∧p.f≤acc - 1)∧0≤p.t∧p.t≤acc - 1
  · have hok:decide (okP acc p)=(decide (1≤p.a)&&decide (p.a≤20000)):=by
      rw [← Bool.decide_and]
      refine decide_eq_decide.2 ?_
      unfold okP
      omega
    by_cases ha1:p.a<1
    · have ha2:¬ 1≤p.a:=by omega
      simp only [zdU,hf,q3,ha1,ha2,hok,and_self,decide_true,decide_false,Bool.not_true,Bool.not_false,Bool.false_and,za,Value.cells,Value.oneCell',Nat.reduceAdd,Nat.reduceSub,Nat.reduceMul,Nat.reduceLeDiff,Int.reduceEq,Nat.reduceEqDiff,zfj]
      exact y2
    · have ha2:1≤p.a:=by omega
      have ha3:decide (20000<p.a)=!decide (p.a≤20000):=by by_cases h1:p.a≤20000 <;> simp [h1] <;> omega
      simp only [zdU,hf,q3,ha1,ha2,hok,ha3,and_self,decide_true,decide_false,Bool.not_true,Bool.not_false,Bool.true_and,za,Value.cells,Value.oneCell',Nat.reduceAdd,Nat.reduceSub,Nat.reduceMul,Nat.reduceLeDiff,Int.reduceEq,Nat.reduceEqDiff,zfj]
      exact y2
  · have hok:¬ okP acc p:=by unfold okP; omega
    simp only [zdU,hf,hok,decide_false,Bool.not_false,za,Value.cells,Value.oneCell',Nat.reduceAdd,Nat.reduceSub,Nat.reduceMul,Nat.reduceLeDiff,Int.reduceEq,Nat.reduceEqDiff,zfj]
    exact y2
theorem zpR (p:Pm)(h:Eng.Heap) :
    zb Tryz.prog 106 #[.agg #[.int .i64 p.f,.int .i64 p.t,.int .i64 p.a]] h (fun v h'=>v=.bool (decide (p.f=p.t))∧Ext h h'):=by
  (refine ze Tryz.func106 rfl bod106 ?_; simp only [Tryz.ntmps106,Tryz.results106,za,zh,splice,Value.cells,Value.oneCell',Nat.reduceAdd,Nat.reduceSub,Nat.reduceMul,Nat.reduceLeDiff,Int.reduceEq,Nat.reduceEqDiff,P1Fs106])
  exact (Ext.refl h).push _
def idxP (q:Pm→Bool)(ps:List Pm):Int:=match ps.findIdx? q with | some i=>i | none=>-1
theorem zrB {q:Pm→Bool}{ps:List Pm}(H:∀ e∈ps,q e=false):idxP q ps=-1:=by
  have:ps.findIdx? q=none:=by rw [List.findIdx?_eq_none_iff]; exact fun x hx=>by simp [H x hx]
  simp [idxP,this]
theorem zrc {q:Pm→Bool}{ps:List Pm}{i:Nat}(hi:i<ps.length)(H:∀ e∈ps.take i,q e=false)(hp:q ps[i]=true):idxP q ps=i:=by
  have:ps.findIdx? q=some i:=by
    rw [List.findIdx?_eq_some_iff_getElem]
    refine⟨hi,hp,fun j hj=>?_⟩
    have hj':j<ps.length:=by omega
    have:=H ps[j] (by rw [List.mem_take_iff_getElem]; exact⟨j,by omega,rfl⟩)
    simp [this]
  simp [idxP,this]
theorem zmz (a:Option Addr)(n c:Nat)(ps:List Pm)(f:FuncId)(caps:Array Value)(q:Pm→Bool)(h:Eng.Heap)(hr:Row h a (pmsV ps))(hn:n=ps.length)(hl:n≤1000000)
    (hq:∀ p∈ps,∀ h',Ext h h'→zb Tryz.prog f (#[]++#[.agg #[.int .i64 p.f,.int .i64 p.t,.int .i64 p.a]]++caps) h' (fun v h''=>v=.bool (q p)∧Ext h' h'')) :
    zb Tryz.prog 135 #[.slice a n c,.func (.func f) #[] caps] h (fun v h'=>v=.int .i64 (idxP q ps)∧Ext h h'):=by
  (refine ze Tryz.func135 rfl bod135 ?_; simp only [Tryz.ntmps135,Tryz.results135,za,zh,splice,Value.cells,Value.oneCell',Nat.reduceAdd,Nat.reduceSub,Nat.reduceMul,Nat.reduceLeDiff,Int.reduceEq,Nat.reduceEqDiff,ze5])
  refine zo [4,5,8,9,10,11,12,13,14,15,16,17,18] (fun g h'=>∃ i:Nat,i≤n∧g 8=.int .i64 i∧(∀ e∈ps.take i,q e=false)∧Ext h h') (fun g _=>match g 8 with | .int _ m=>n - m.toNat | _=>0) ?_ ?_
  · exact⟨0,by omega,rfl,by simp,Ext.refl h⟩
  · rintro g h' ⟨i,hin,hg8,hno,hx⟩
    by_cases hi:i<ps.length
    · have hsm:a.isSome=true:=hr.isSome (by rw [zaI]; omega)
      have hc1:=rowP (hr.ext hx) hi
      simp only [hg8,hc1,za,Value.cells,Value.oneCell',Nat.reduceAdd,Nat.reduceSub,Nat.reduceMul,Nat.reduceLeDiff,Int.reduceEq,Nat.reduceEqDiff,ze5]
      refine⟨fun hlt=>⟨⟨by omega,by omega⟩,hsm,?_⟩,fun hge=>absurd hge (by omega)⟩
      refine zb.mono (hq _ (List.getElem_mem hi) _ hx) ?_
      rintro v h2 ⟨rfl,hx2⟩
      have htk:ps.take (i+1)=ps.take i++[ps[i]]:=by rw [List.take_add_one,List.getElem?_eq_getElem hi]; rfl
      cases hp:q ps[i]
      · simp only [za,Value.cells,Value.oneCell',Nat.reduceAdd,Nat.reduceSub,Nat.reduceMul,Nat.reduceLeDiff,Int.reduceEq,Nat.reduceEqDiff,ze5]
        refine⟨by rw [zf]; omega,zi (by kernel_rfl) ⟨i+1,by omega,rfl,fun e he=>?_,hx.trans hx2⟩ ?_⟩
        · rw [htk,List.mem_append,List.mem_singleton] at he
          rcases he with he | rfl
          · exact hno e he
          · exact hp
        · show n - ((i:Int)+1).toNat<n - (i:Int).toNat
          omega
      · simp only [za,Value.cells,Value.oneCell',Nat.reduceAdd,Nat.reduceSub,Nat.reduceMul,Nat.reduceLeDiff,Int.reduceEq,Nat.reduceEqDiff,ze5]
        exact⟨by rw [zrc hi hno hp],hx.trans hx2⟩
    · simp only [hg8,za,Value.cells,Value.oneCell',Nat.reduceAdd,Nat.reduceSub,Nat.reduceMul,Nat.reduceLeDiff,Int.reduceEq,Nat.reduceEqDiff,ze5]
      refine⟨fun hlt=>absurd hlt (by omega),fun hge=>?_⟩
      rw [List.take_of_length_le (by omega)] at hno
      exact⟨by rw [zrB hno],hx⟩
theorem zeq (a:Option Addr)(n c:Nat)(ps:List Pm)(f:FuncId)(caps:Array Value)(q:Pm→Bool)(h:Eng.Heap)(hr:Row h a (pmsV ps))(hn:n=ps.length)(hl:n≤1000000)
    (hq:∀ p∈ps,∀ h',Ext h h'→zb Tryz.prog f (#[]++#[.agg #[.int .i64 p.f,.int .i64 p.t,.int .i64 p.a]]++caps) h' (fun v h''=>v=.bool (q p)∧Ext h' h'')) :
    zb Tryz.prog 105 #[.slice a n c,.func (.func f) #[] caps] h (fun v h'=>v=.bool (ps.any q)∧Ext h h'):=by
  (refine ze Tryz.func105 rfl bod105 ?_; simp only [Tryz.ntmps105,Tryz.results105,za,zh,splice,Value.cells,Value.oneCell',Nat.reduceAdd,Nat.reduceSub,Nat.reduceMul,Nat.reduceLeDiff,Int.reduceEq,Nat.reduceEqDiff])
  refine zb.mono (zmz a n c ps f caps q h hr hn hl hq) ?_
  rintro v h2 ⟨rfl,hx⟩
  simp only [za,Value.cells,Value.oneCell',Nat.reduceAdd,Nat.reduceSub,Nat.reduceMul,Nat.reduceLeDiff,Int.reduceEq,Nat.reduceEqDiff]
  refine⟨?_,hx⟩
  congr 1
  unfold idxP
  cases hf:ps.findIdx? q with
  | none=>
    rw [List.findIdx?_eq_none_iff] at hf
    have:ps.any q=false:=by rw [List.any_eq_false]; intro x hx; simp [hf x hx]
    simp [this]
  | some i=>
    rw [List.findIdx?_eq_some_iff_getElem] at hf
    obtain⟨hi,hp,_⟩:=hf
    have:ps.any q=true:=by rw [List.any_eq_true]; exact⟨ps[i],List.getElem_mem hi,hp⟩
    simp [this]
theorem znB {ps:List Pm}{acc:Int}:(ps.any fun p=>!decide (okP acc p))=!decide (∀ p∈ps,okP acc p):=by
  rw [Bool.eq_iff_iff,List.any_eq_true,Bool.not_eq_true',decide_eq_false_iff_not]
  constructor
  · rintro⟨p,hp,h⟩ hh
    rw [decide_eq_true (hh p hp)] at h
    cases h
  · intro h
    refine Classical.byContradiction fun hh=>h fun p hp=>Classical.byContradiction fun hn=>hh ⟨p,hp,?_⟩
    rw [decide_eq_false hn]; rfl
theorem zkp {ps:List Pm}:(ps.any fun p=>decide (p.f=p.t))=true↔∃ p∈ps,p.f=p.t:=by
  rw [List.any_eq_true]
  exact⟨fun ⟨p,hp,h⟩=>⟨p,hp,of_decide_eq_true h⟩,fun ⟨p,hp,h⟩=>⟨p,hp,decide_eq_true h⟩⟩
theorem zkz {es:List En}{day:Int}:bals 8 es day=List.replicate 8 0↔∀ i:Nat,i<8→balA es day (i:Int)=0:=by
  constructor
  · intro h i hi
    rw [← zL es day hi,h,List.getD_eq_getElem?_getD,List.getElem?_replicate,if_pos hi]
    rfl
  · intro h
    refine zfr (by rw [zm]; rfl) fun i hi=>?_
    rw [zm] at hi
    rw [zL es day hi,h i hi,List.getD_eq_getElem?_getD,List.getElem?_replicate,if_pos hi]
    rfl
theorem pays54 (acc cl:Int)(a:Option Addr)(n c:Nat)(es:List En)(day:Int)(b:Option Addr)(m d:Nat)(ps:List Pm)(h:Eng.Heap)(hr:Row h a (ensV es))(hn:n=es.length)(hl:n≤1000000)(hp:Row h b (pmsV ps))(hm:m=ps.length)(hml:m≤1000000) :
    zb Tryz.prog 54 #[.agg #[.int .i64 acc,.int .i64 cl,.slice a n c],.int .i64 day,.slice b m d] h (fun v h'=>v=cpyV acc cl es day ps∧Ext h h'):=by
  (refine ze Tryz.func54 rfl bod54 ?_; simp only [Tryz.ntmps54,Tryz.results54,za,zh,splice,Value.cells,Value.oneCell',Nat.reduceAdd,Nat.reduceSub,Nat.reduceMul,Nat.reduceLeDiff,Int.reduceEq,Nat.reduceEqDiff,zba])
  have q0:=zu (h:=h) (o:=.cells #[.int .i64 acc,.int .i64 cl,.slice a n c] 24)
  refine zb.mono (zfb acc cl a n c es _ 1 1 [day] _ ((hr.push _).push _) hn hl (zaB pn1) (by omega)) ?_
  rintro v h1 ⟨x1,H⟩
  have y1:=x1.of_push.of_push
  rcases H with⟨e0,g,rfl,hg,hsz⟩ | ⟨e0,rfl⟩
  case inr=>
    simp only [e0,decide_false,Bool.not_false,za,Value.cells,Value.oneCell',Nat.reduceAdd,Nat.reduceSub,Nat.reduceMul,Nat.reduceLeDiff,Int.reduceEq,Nat.reduceEqDiff,zba]
    refine⟨?_,y1⟩
    unfold cpyV cpy
    rw [if_pos e0]
  obtain⟨hc,hd⟩:=zbZ e0
  obtain⟨ha,hl2,hcl,hok,hso,hft⟩:=zbX hc
  have hb1:=x1.get pn0
  have n0:¬ (opn acc cl es [day]≠0):=by simpa using e0
  by_cases h20:20<ps.length
  · have h20i:(20:Int)<(m:Int):=by omega
    simp only [h20i,decide_true,decide_false,Bool.not_true,za,Value.cells,Value.oneCell',Nat.reduceAdd,Nat.reduceSub,Nat.reduceMul,Nat.reduceLeDiff,Int.reduceEq,Nat.reduceEqDiff,zba]
    refine⟨?_,y1⟩
    unfold cpyV cpy
    rw [if_neg n0,if_pos h20]
  have h20i:¬ (20:Int)<(m:Int):=by omega
  simp only [h20i,decide_true,decide_false,Bool.not_true,za,Value.cells,Value.oneCell',Nat.reduceAdd,Nat.reduceSub,Nat.reduceMul,Nat.reduceLeDiff,Int.reduceEq,Nat.reduceEqDiff,zba]
  refine zb.mono (zeq b m d ps 104 _ (fun p=>!decide (okP acc p)) h1 (hp.ext y1) hm hml fun p _ h' x'=>zpn acc cl _ p _ h' (x'.get hb1) ha) ?_
  rintro v h2 ⟨rfl,x2⟩
  rw [znB]
  by_cases hall:∀ p∈ps,okP acc p
  case neg=>
    rw [decide_eq_false hall]
    simp only [Bool.not_false,za,Value.cells,Value.oneCell',Nat.reduceAdd,Nat.reduceSub,Nat.reduceMul,Nat.reduceLeDiff,Int.reduceEq,Nat.reduceEqDiff,zba]
    refine⟨?_,y1.trans x2⟩
    unfold cpyV cpy
    rw [if_neg n0,if_neg h20,if_pos hall]
  rw [decide_eq_true hall]
  simp only [Bool.not_true,za,Value.cells,Value.oneCell',Nat.reduceAdd,Nat.reduceSub,Nat.reduceMul,Nat.reduceLeDiff,Int.reduceEq,Nat.reduceEqDiff,zba]
  refine zb.mono (zeq b m d ps 106 #[] (fun p=>decide (p.f=p.t)) h2 ((hp.ext y1).ext x2) hm hml fun p _ h' x'=>zpR p h') ?_
  rintro v h3 ⟨rfl,x3⟩
  cases hex:ps.any fun p=>decide (p.f=p.t) with
  | true=>
    simp only [za,Value.cells,Value.oneCell',Nat.reduceAdd,Nat.reduceSub,Nat.reduceMul,Nat.reduceLeDiff,Int.reduceEq,Nat.reduceEqDiff,zba]
    refine⟨?_,(y1.trans x2).trans x3⟩
    unfold cpyV cpy
    rw [if_neg n0,if_neg h20,if_neg (fun hh=>hh hall),if_pos (zkp.1 hex)]
  | false=>
  have hne:∀ p∈ps,p.f≠p.t:=fun p hp he=>by
    rw [zkp.2 ⟨p,hp,he⟩] at hex
    cases hex
  have y3:=(y1.trans x2).trans x3
  simp only [za,Value.cells,Value.oneCell',Nat.reduceAdd,Nat.reduceSub,Nat.reduceMul,Nat.reduceLeDiff,Int.reduceEq,Nat.reduceEqDiff,zba]
  refine zb.mono (zcQ g acc cl a n c es day h3 (x3.get (x2.get hg)) (hr.ext y3) hn (by omega) hok ha.2 hft) ?_
  rintro v h4 ⟨rfl,x4⟩
  have y4:=y3.trans x4
  obtain⟨xs,hxs⟩:∃ xs,xs=bals 8 es day:=⟨_,rfl⟩
  have hxl:xs.length=8:=by rw [hxs,zm]
  rw [← hxs]
  obtain⟨b0,b1,b2,b3,b4,b5,b6,b7,h8⟩:∃ b0 b1 b2 b3 b4 b5 b6 b7:Int,xs=[b0,b1,b2,b3,b4,b5,b6,b7]:=by
    match xs,hxl with
    | [b0,b1,b2,b3,b4,b5,b6,b7],_=>exact⟨b0,b1,b2,b3,b4,b5,b6,b7,rfl⟩
  have h9:(ints xs).toArray=#[.int .i64 b0,.int .i64 b1,.int .i64 b2,.int .i64 b3,.int .i64 b4,.int .i64 b5,.int .i64 b6,.int .i64 b7]:=by rw [h8]; rfl
  rw [h9]
  simp only [za,zh,splice,Value.cells,Value.oneCell',Nat.reduceAdd,Nat.reduceSub,Nat.reduceMul,Nat.reduceLeDiff,Int.reduceEq,Nat.reduceEqDiff,zba]
  rw [← h9,hxs]
  have q5:=zu (h:=h4) (o:=.cells (ints (bals 8 es day)).toArray 104)
  have xq:Ext h4 (h4.push (.cells (ints (bals 8 es day)).toArray 104)):=(Ext.refl h4).push _
  refine zo [14,44,45,46,47,48,49,50,51,52,53,54,55,56] (fun e h'=>Ext h4 h'∧∃ i:Nat,i≤m∧e 44=.int .i64 i∧h'[h4.size]?=some (.cells (ints (bals 8 (aft es day (ps.take i)) day)).toArray 104)) (fun e _=>match e 44 with | .int _ q=>m - q.toNat | _=>0) ⟨xq,0,by omega,rfl,by rw [List.take_zero,zov]; exact q5⟩ ?_
  rintro e5 h5 ⟨x5,i,hi,he5,q6⟩
  have hz5:=x5.size
  by_cases him:i<m
  case neg=>
    obtain rfl:m=i:=by omega
    rw [List.take_of_length_le (by omega)] at q6
    obtain⟨ys,hys⟩:∃ ys,ys=bals 8 (aft es day ps) day:=⟨_,rfl⟩
    have hyl:ys.length=8:=by rw [hys,zm]
    rw [← hys] at q6
    obtain⟨c0,c1,c2,c3,c4,c5,c6,c7,h18⟩:∃ c0 c1 c2 c3 c4 c5 c6 c7:Int,ys=[c0,c1,c2,c3,c4,c5,c6,c7]:=by
      match ys,hyl with
      | [c0,c1,c2,c3,c4,c5,c6,c7],_=>exact⟨c0,c1,c2,c3,c4,c5,c6,c7,rfl⟩
    have h19:(ints ys).toArray=#[.int .i64 c0,.int .i64 c1,.int .i64 c2,.int .i64 c3,.int .i64 c4,.int .i64 c5,.int .i64 c6,.int .i64 c7]:=by rw [h18]; rfl
    rw [h19] at q6
    simp only [he5,q6,show ¬ ((m:Int)<(m:Int)) by omega,decide_false,show za8 Tryz.prog 104=false by kernel_rfl,bldO_no,za,Value.cells,Value.oneCell',Nat.reduceAdd,Nat.reduceSub,Nat.reduceMul,Nat.reduceLeDiff,Int.reduceEq,Nat.reduceEqDiff,zba]
    refine znT (n:=8) (el:=2) (z:=ints (List.replicate 8 0)) Tryz.underlying104 inf2 zdZ ?_
    simp only [za,Value.cells,Value.oneCell',Nat.reduceAdd,Nat.reduceSub,Nat.reduceMul,Nat.reduceLeDiff,Int.reduceEq,Nat.reduceEqDiff,zba]
    rw [← h19]
    refine eqAggW Pt.ok (ti:=(Pt.pr.ty 104).getD ⟨0,0,.any,.other,[]⟩) (by kernel_rfl) (a:=.agg (ys.map (T.int .i64))) (b:=.agg ((List.replicate 8 (0:Int)).map (T.int .i64))) (r:=decide (ys=List.replicate 8 0)) ?_ ?_ ?_ (.inr rfl) (by rfl) (by rfl) ?_
    · simp only [VR]; exact⟨_,rfl,by simpa using zg1 ys⟩
    · simp only [VR]; exact⟨_,rfl,by simpa using zg1 (List.replicate 8 (0:Int))⟩
    · have:=zgd ys (List.replicate 8 0) (by rw [hyl]; rfl)
      rw [hyl] at this
      exact this
    by_cases hz:ys=List.replicate 8 0
    · have hz2:=hz
      rw [hys,zkz] at hz2
      rw [decide_eq_true hz]
      simp only [Bool.not_true,if_false,reduceCtorEq,za,Value.cells,Value.oneCell',Nat.reduceAdd,Nat.reduceSub,Nat.reduceMul,Nat.reduceLeDiff,Int.reduceEq,Nat.reduceEqDiff,zba]
      refine⟨?_,y4.trans x5⟩
      unfold cpyV
      rw [zm1 e0 (by omega) hall hne hz2,hm]
    · have hz2:=hz
      rw [hys,zkz] at hz2
      rw [decide_eq_false hz]
      simp only [Bool.not_false,if_false,reduceCtorEq,za,Value.cells,Value.oneCell',Nat.reduceAdd,Nat.reduceSub,Nat.reduceMul,Nat.reduceLeDiff,Int.reduceEq,Nat.reduceEqDiff,zba]
      refine⟨?_,y4.trans x5⟩
      unfold cpyV cpy
      rw [if_neg n0,if_neg h20,if_neg (fun hh=>hh hall),if_neg (by rintro⟨p,hp,he⟩; exact hne p hp he),if_pos hz2]
  have hlt:(i:Int)<(m:Int):=by omega
  have meas:m - ((i:Int)+1).toNat<m - (i:Int).toNat:=by omega
  have hip:i<ps.length:=by omega
  have hsm:b.isSome=true:=hp.isSome (by rw [zaI]; omega)
  have hc1:=rowP ((hp.ext y4).ext x5) hip
  obtain⟨p,hpe⟩:∃ p,p=ps[i]:=⟨_,rfl⟩
  have hpm:p∈ps:=by rw [hpe]; exact List.getElem_mem hip
  have hop:=hall p hpm
  have hnp:=hne p hpm
  rw [← hpe] at hc1
  obtain⟨f,hf⟩:∃ f:Nat,p.f=f:=⟨p.f.toNat,by unfold okP at hop; omega⟩
  obtain⟨t,ht⟩:∃ t:Nat,p.t=t:=⟨p.t.toNat,by unfold okP at hop; omega⟩
  have hf8:f<8:=by unfold okP at hop; omega
  have ht8:t<8:=by unfold okP at hop; omega
  have hpa:1≤p.a∧p.a≤20000:=hop.2.2
  have hbd:∀ j:Int,-420000≤balA (aft es day (ps.take i)) day j∧balA (aft es day (ps.take i)) day j≤420000:=fun j=>zkP day j hok hl2 (fun q hq=>hall q (List.mem_of_mem_take hq)) (by rw [List.length_take]; omega)
  have hbf:=hbd f
  have hbt:=hbd t
  rw [hf,ht] at hc1
  simp only [he5,hlt,hc1,decide_true,Int.toNat_natCast,za,Value.cells,Value.oneCell',Nat.reduceAdd,Nat.reduceSub,Nat.reduceMul,Nat.reduceLeDiff,Int.reduceEq,Nat.reduceEqDiff,zba]
  refine⟨by omega,hsm,?_⟩
  refine zax zu (by simp) fun h6 g6 u6=>?_
  simp only [splice,List.take,List.drop,List.nil_append,List.append_nil,List.length_cons,List.length_nil] at g6
  have x6:Ext h5 h6:=u6.ext ((Ext.refl h5).push _) (Nat.le_refl _)
  have q7:=x6.get q6
  simp only [g6,za,Value.cells,Value.oneCell',Nat.reduceAdd,Nat.reduceSub,Nat.reduceMul,Nat.reduceLeDiff,Int.reduceEq,Nat.reduceEqDiff,zba]
  refine zb.mono (zoi h4.size _ f t p.a h6 q7 (zm ..) hf8 ht8 ?_ ?_) ?_
  · rw [zL _ _ hf8,zf]; omega
  · rw [zdb,if_neg (by omega),zL _ _ ht8,zf]; omega
  rintro v h7 ⟨g7,u7⟩
  have e7:zdI (bals 8 (aft es day (ps.take i)) day) f t p.a=bals 8 (aft es day (ps.take (i+1))) day:=by
    rw [zlD hip,← hpe]
    exact zeB (e:=pmE day p) (by show day≤day; omega) hf ht hf8 ht8
  rw [e7] at g7
  simp only [he5,za,Value.cells,Value.oneCell',Nat.reduceAdd,Nat.reduceSub,Nat.reduceMul,Nat.reduceLeDiff,Int.reduceEq,Nat.reduceEqDiff,zba]
  exact⟨by rw [zf]; omega,zi (by kernel_rfl) ⟨u7.ext (x5.trans x6) (Nat.le_refl _),i+1,by omega,rfl,g7⟩ meas⟩
end Go.Proofs.YtepaekbjoombpaaGreatDoor
end
section
namespace Go.Proofs.YtepaekbjoombpaaGreatDoor
open Go Go.Proofs Go.Eng Go.Run Tab
set_option maxRecDepth 100000
set_option linter.unusedSimpArgs false
set_option linter.unusedVariables false
set_option linter.defProp false
set_option maxHeartbeats 4000000
set_option linter.defProp false
def zal:=(And.intro (And.intro (And.intro (And.intro @zja @agg2) (And.intro @zbV (And.intro @agg3 @ziO))) (And.intro (And.intro @by2 @zg8) (And.intro @zhf (And.intro @zju @zel)))) (And.intro (And.intro (And.intro @zgc @inf2) (And.intro @zbS (And.intro @inf3 @ziL))) (And.intro (And.intro @sz2 (And.intro @sz24 @sz3)) (And.intro @zhj (And.intro @Tryz.underlying37 @Tryz.underlying77)))))
theorem zoD (ps:List Pm)(j k:Nat)(hj:j<ps.length)(hk:k<3):(pmsV ps)[j*3+k]?=(pmV ps[j])[k]?:=by
  have h:=zmE ps j hj
  have:(((pmsV ps).drop (j*3)).take 3)[k]?=(pmV ps[j])[k]?:=by rw [h]
  rwa [List.getElem?_take,if_pos hk,List.getElem?_drop] at this
theorem rowPF {h:Eng.Heap}{g off:Nat}{ps:List Pm}(hr:Row h (some ⟨g,off,none⟩) (pmsV ps)){j:Nat}(hj:j<ps.length)(k:Nat)(hk:k<3):zT h (some ⟨g,off+j*3+k,none⟩)=(pmV ps[j])[k]?:=by
  have h1:=hr.cell (j:=j*3+k) (by rw [zaI]; omega)
  have h2:=zoD ps j k hj hk
  rw [List.getElem?_eq_getElem (by rw [zaI]; omega)] at h2
  rw [zab] at h1
  rw [Nat.add_assoc,h1,h2]
theorem zU {P:Program}{s:Tmp}{w:Bool}{op:Op}{ty:TypeId}{all rest:List Oper}{k:Cont}{dst:Option Tmp}{e:Env}{d:List Deferred}{h:Eng.Heap}:gd P undef s w op ty all rest k dst e d h=zao P all rest k (putE e dst undef) d h:=zib
theorem zkq {h h':Eng.Heap}{g o:Nat}(e:h'[g]?=h[g]?):zT h' (some ⟨g,o,none⟩)=zT h (some ⟨g,o,none⟩):=by
  unfold zT
  simp only [e]
theorem pays58 (acc cl:Int)(a:Option Addr)(n c:Nat)(es:List En)(day:Int)(b:Option Addr)(m d:Nat)(ps:List Pm)(h:Eng.Heap)(hr:Row h a (ensV es))(hn:n=es.length)(hl:n≤1000000)(hp:Row h b (pmsV ps))(hm:m=ps.length)(hml:m≤1000000) :
    zb Tryz.prog 58 #[.agg #[.int .i64 acc,.int .i64 cl,.slice a n c],.int .i64 day,.slice b m d] h (fun v h'=>v=cpyV acc cl es day ps∧Ext h h'):=by
  (refine ze Tryz.func58 rfl bod58 ?_; simp only [Tryz.ntmps58,Tryz.results58,za,zh,splice,Value.cells,Value.oneCell',Nat.reduceAdd,Nat.reduceSub,Nat.reduceMul,Nat.reduceLeDiff,Int.reduceEq,Nat.reduceEqDiff,zal])
  have q0:=zu (h:=h) (o:=.cells #[.int .i64 acc,.int .i64 cl,.slice a n c] 24)
  refine zb.mono (zca acc cl a n c es day _ (hr.push _) hn hl) ?_
  rintro v h1 ⟨rfl,x1⟩
  have hb1:=x1.get q0
  have y1:=x1.of_push
  by_cases e0:opn acc cl es [day]=0
  case neg=>
    simp only [e0,hb1,decide_false,Bool.not_false,za,Value.cells,Value.oneCell',Nat.reduceAdd,Nat.reduceSub,Nat.reduceMul,Nat.reduceLeDiff,Int.reduceEq,Nat.reduceEqDiff,zal]
    refine zb.mono (zca acc cl a n c es day h1 (hr.ext y1) hn hl) ?_
    rintro v h2 ⟨rfl,x2⟩
    simp only [za,Value.cells,Value.oneCell',Nat.reduceAdd,Nat.reduceSub,Nat.reduceMul,Nat.reduceLeDiff,Int.reduceEq,Nat.reduceEqDiff,zal]
    refine⟨?_,y1.trans x2⟩
    unfold cpyV cpy
    rw [if_pos e0]
  obtain⟨hc,hd⟩:=zbZ e0
  obtain⟨ha,hl2,hcl,hok,hso,hft⟩:=zbX hc
  obtain⟨k,rfl⟩:∃ k:Nat,acc=k:=⟨acc.toNat,by omega⟩
  have n0:¬ (opn k cl es [day]≠0):=by simpa using e0
  by_cases h20:20<ps.length
  · have h20i:(20:Int)<(m:Int):=by omega
    simp only [e0,h20i,decide_true,decide_false,Bool.not_true,za,Value.cells,Value.oneCell',Nat.reduceAdd,Nat.reduceSub,Nat.reduceMul,Nat.reduceLeDiff,Int.reduceEq,Nat.reduceEqDiff,zal]
    refine⟨?_,y1⟩
    unfold cpyV cpy
    rw [if_neg n0,if_pos h20]
  have h20i:¬ (20:Int)<(m:Int):=by omega
  simp only [e0,h20i,decide_true,decide_false,Bool.not_true,za,Value.cells,Value.oneCell',Nat.reduceAdd,Nat.reduceSub,Nat.reduceMul,Nat.reduceLeDiff,Int.reduceEq,Nat.reduceEqDiff,zal]
  refine zo [6,7,8,9,23,24,25,26,27,28,29,30,31,32,33,34,35,36,37,38,39,40,41,42,43,44,45,46,47,48,49,50,51,52,53,54,55,56,57,58,59,60,61,62,63,64] (fun e h'=>Ext h1 h'∧∃ i:Nat,i≤m∧e 8=.int .i64 i∧∀ p∈ps.take i,okP k p) (fun e _=>match e 8 with | .int _ q=>m - q.toNat | _=>0) ⟨Ext.refl _,0,by omega,rfl,by simp⟩ ?_
  rintro e2 h2 ⟨x2,i,hi,he2,hall⟩
  have hb2:=x2.get hb1
  have y2:=y1.trans x2
  by_cases him:i<m
  case pos=>
    have hlt:(i:Int)<(m:Int):=by omega
    have meas:m - ((i:Int)+1).toNat<m - (i:Int).toNat:=by omega
    have hip:i<ps.length:=by omega
    have hsm:b.isSome=true:=hp.isSome (by rw [zaI]; omega)
    have hc1:=rowP (hp.ext y2) hip
    obtain⟨p,hpe⟩:∃ p,p=ps[i]:=⟨_,rfl⟩
    have hpm:p∈ps:=by rw [hpe]; exact List.getElem_mem hip
    rw [← hpe] at hc1
    simp only [he2,hlt,hc1,decide_true,Int.toNat_natCast,za,Value.cells,Value.oneCell',Nat.reduceAdd,Nat.reduceSub,Nat.reduceMul,Nat.reduceLeDiff,Int.reduceEq,Nat.reduceEqDiff,zal]
    refine⟨by omega,hsm,?_⟩
    refine zax zu (by simp) fun h6 g6 u6=>?_
    simp only [splice,List.take,List.drop,List.nil_append,List.append_nil,List.length_cons,List.length_nil] at g6
    have x6:Ext h2 h6:=u6.ext ((Ext.refl h2).push _) (Nat.le_refl _)
    have hb6:=x6.get hb2
    have hbad:¬ okP k p→(Value.tuple #[.int .i64 0,.int .i64 3]=cpyV k cl es day ps∧Ext h h6):=fun hno=>by
      refine⟨?_,y2.trans x6⟩
      unfold cpyV cpy
      rw [if_neg n0,if_neg h20,if_pos (fun hh=>hno (hh p hpm))]
    have hnx:okP k p→∀ q∈ps.take (i+1),okP k q:=fun ho q hq=>by
      rw [List.take_add_one,List.getElem?_eq_getElem hip,← hpe] at hq
      rcases List.mem_append.1 hq with hq | hq
      · exact hall q hq
      · simp at hq; rw [hq]; exact ho
    by_cases c1:p.f<0
    · simp only [g6,hb6,c1,zO,zU,decide_true,za,Value.cells,Value.oneCell',Nat.reduceAdd,Nat.reduceSub,Nat.reduceMul,Nat.reduceLeDiff,Int.reduceEq,Nat.reduceEqDiff,zal]
      exact hbad (by unfold okP; omega)
    by_cases c2:(k:Int)≤p.f
    · simp only [g6,hb6,c1,c2,zO,zU,decide_true,decide_false,za,Value.cells,Value.oneCell',Nat.reduceAdd,Nat.reduceSub,Nat.reduceMul,Nat.reduceLeDiff,Int.reduceEq,Nat.reduceEqDiff,zal]
      exact hbad (by unfold okP; omega)
    by_cases c3:p.t<0
    · simp only [g6,hb6,c1,c2,c3,zO,zU,decide_true,decide_false,za,Value.cells,Value.oneCell',Nat.reduceAdd,Nat.reduceSub,Nat.reduceMul,Nat.reduceLeDiff,Int.reduceEq,Nat.reduceEqDiff,zal]
      exact hbad (by unfold okP; omega)
    by_cases c4:(k:Int)≤p.t
    · simp only [g6,hb6,c1,c2,c3,c4,zO,zU,decide_true,decide_false,za,Value.cells,Value.oneCell',Nat.reduceAdd,Nat.reduceSub,Nat.reduceMul,Nat.reduceLeDiff,Int.reduceEq,Nat.reduceEqDiff,zal]
      exact hbad (by unfold okP; omega)
    by_cases c5:p.a<1
    · simp only [g6,hb6,c1,c2,c3,c4,c5,zO,zU,decide_true,decide_false,za,Value.cells,Value.oneCell',Nat.reduceAdd,Nat.reduceSub,Nat.reduceMul,Nat.reduceLeDiff,Int.reduceEq,Nat.reduceEqDiff,zal]
      exact hbad (by unfold okP; omega)
    by_cases c6:20000<p.a
    · simp only [g6,hb6,c1,c2,c3,c4,c5,c6,zO,zU,decide_true,decide_false,za,Value.cells,Value.oneCell',Nat.reduceAdd,Nat.reduceSub,Nat.reduceMul,Nat.reduceLeDiff,Int.reduceEq,Nat.reduceEqDiff,zal]
      exact hbad (by unfold okP; omega)
    simp only [he2,g6,hb6,c1,c2,c3,c4,c5,c6,zO,zU,decide_true,decide_false,za,Value.cells,Value.oneCell',Nat.reduceAdd,Nat.reduceSub,Nat.reduceMul,Nat.reduceLeDiff,Int.reduceEq,Nat.reduceEqDiff,zal]
    exact⟨by rw [zf]; omega,zi (by kernel_rfl) ⟨x2.trans x6,i+1,by omega,rfl,hnx (by unfold okP; omega)⟩ meas⟩
  obtain rfl:m=i:=by omega
  rw [List.take_of_length_le (by omega)] at hall
  simp only [he2,hb2,show ¬ ((m:Int)<(m:Int)) by omega,decide_false,za,Value.cells,Value.oneCell',Nat.reduceAdd,Nat.reduceSub,Nat.reduceMul,Nat.reduceLeDiff,Int.reduceEq,Nat.reduceEqDiff,zal]
  refine zb.mono (zf2 k cl a n c es day h2 (hr.ext y2) hn (by omega) hok (by omega) hft) ?_
  rintro v h3 ⟨⟨g,rfl,hg3,hsz⟩,x3⟩
  have y3:=y2.trans x3
  have hsz1:=y2.size
  have hb3:=x3.get hb2
  have hlb:=zt hb2
  simp only [za,Value.cells,Value.oneCell',Nat.reduceAdd,Nat.reduceSub,Nat.reduceMul,Nat.reduceLeDiff,Int.reduceEq,Nat.reduceEqDiff,zal]
  refine zo [6,7,11,68,69,70,71,72,73,74,75,76,77,78,79,80,81,82,83,84,85,86,87,88,89,90,91,92,93,94,95,96,97,98,99,100,101,102,103,104,105,106,107,108,109,110,111,112,113,114] (fun e h'=>Ext h2 h'∧∃ i:Nat,i≤m∧e 11=.int .i64 i∧h'[g]?=some (.cells (ints (bals k (aft es day (ps.take i)) day)).toArray 2)∧∀ p∈ps.take i,p.f≠p.t) (fun e _=>match e 11 with | .int _ q=>m - q.toNat | _=>0) ⟨x3,0,by omega,rfl,by rw [List.take_zero,zov]; exact hg3,by simp⟩ ?_
  rintro e4 h4 ⟨x4,i,hi,he4,hg4,hne⟩
  have y4:=y2.trans x4
  by_cases him:i<m
  case neg=>
    obtain rfl:m=i:=by omega
    rw [List.take_of_length_le (by omega)] at hg4 hne
    simp only [he4,show ¬ ((m:Int)<(m:Int)) by omega,decide_false,za,Value.cells,Value.oneCell',Nat.reduceAdd,Nat.reduceSub,Nat.reduceMul,Nat.reduceLeDiff,Int.reduceEq,Nat.reduceEqDiff,zal]
    refine zo [6,7,12,115,116,117,118,119,120,121,122,123,124,125] (fun e h'=>h'=h4∧∃ i:Nat,i≤k∧e 12=.int .i64 i∧∀ j:Nat,j<i→balA (aft es day ps) day (j:Int)=0) (fun e _=>match e 12 with | .int _ q=>k - q.toNat | _=>0) ⟨rfl,0,by omega,rfl,fun j hj=>by omega⟩ ?_
    rintro e5 h5 ⟨rfl,t,ht,he5,hz⟩
    by_cases htk:t<k
    · have hlt:(t:Int)<(k:Int):=by omega
      have meas:k - ((t:Int)+1).toNat<k - (t:Int).toNat:=by omega
      have ci:=zL (n:=k) (aft es day ps) day htk
      by_cases hz0:balA (aft es day ps) day (t:Int)=0
      · simp only [he5,hlt,hg4,ints_getElem? (bals k (aft es day ps) day) t (by rw [zm]; omega),ci,hz0,decide_true,Bool.not_true,Int.toNat_natCast,za,Value.cells,Value.oneCell',Nat.reduceAdd,Nat.reduceSub,Nat.reduceMul,Nat.reduceLeDiff,Int.reduceEq,Nat.reduceEqDiff,zal]
        refine⟨by omega,rfl,by rw [zf]; omega,zi (by kernel_rfl) ⟨rfl,t+1,by omega,rfl,fun j hj=>?_⟩ meas⟩
        by_cases hjt:j=t
        · rw [hjt]; exact hz0
        · exact hz j (by omega)
      · simp only [he5,hlt,hg4,ints_getElem? (bals k (aft es day ps) day) t (by rw [zm]; omega),ci,hz0,decide_true,decide_false,Bool.not_false,Int.toNat_natCast,za,Value.cells,Value.oneCell',Nat.reduceAdd,Nat.reduceSub,Nat.reduceMul,Nat.reduceLeDiff,Int.reduceEq,Nat.reduceEqDiff,zal]
        refine⟨by omega,rfl,?_,y4⟩
        unfold cpyV cpy
        rw [if_neg n0,if_neg h20,if_neg (fun hh=>hh hall),if_neg (by rintro⟨p,hp,he⟩; exact hne p hp he),if_pos (fun hh=>hz0 (hh t (by omega)))]
    · obtain rfl:k=t:=by omega
      simp only [he5,show ¬ ((k:Int)<(k:Int)) by omega,decide_false,za,Value.cells,Value.oneCell',Nat.reduceAdd,Nat.reduceSub,Nat.reduceMul,Nat.reduceLeDiff,Int.reduceEq,Nat.reduceEqDiff,zal]
      refine⟨?_,y4⟩
      unfold cpyV
      rw [zm1 e0 (by omega) hall hne fun j hj=>?_,hm]
      by_cases hjk:j<k
      · exact hz j hjk
      · have hf:∀ e∈aft es day ps,(0≤e.f∧e.f<(k:Int))∧0≤e.t∧e.t<(k:Int):=fun e he=>by
          rcases List.mem_append.1 he with he | he
          · exact⟨(hok e he).2.1,(hok e he).2.2.1⟩
          · obtain⟨p,hp,rfl⟩:=List.mem_map.1 he
            exact⟨(hall p hp).1,(hall p hp).2.1⟩
        exact zqW hf (by omega)
  have hlt:(i:Int)<(m:Int):=by omega
  have meas:m - ((i:Int)+1).toNat<m - (i:Int).toNat:=by omega
  have hip:i<ps.length:=by omega
  obtain⟨g0,off,rfl⟩:=Row.addr hp (by rw [zaI]; omega)
  have hp4:=hp.ext y4
  have f0:zT h4 (some ⟨g0,off+i*3,none⟩)=some (.int .i64 ps[i].f):=rowPF hp4 hip 0 (by omega)
  have f1:zT h4 (some ⟨g0,off+i*3+1,none⟩)=some (.int .i64 ps[i].t):=rowPF hp4 hip 1 (by omega)
  have f2:zT h4 (some ⟨g0,off+i*3+2,none⟩)=some (.int .i64 ps[i].a):=rowPF hp4 hip 2 (by omega)
  obtain⟨p,hpe⟩:∃ p,p=ps[i]:=⟨_,rfl⟩
  have hpm:p∈ps:=by rw [hpe]; exact List.getElem_mem hip
  have hop:=hall p hpm
  rw [← hpe] at f0 f1 f2
  obtain⟨f,hf⟩:∃ f:Nat,p.f=f:=⟨p.f.toNat,by unfold okP at hop; omega⟩
  obtain⟨t,ht⟩:∃ t:Nat,p.t=t:=⟨p.t.toNat,by unfold okP at hop; omega⟩
  have hf8:f<k:=by unfold okP at hop; omega
  have ht8:t<k:=by unfold okP at hop; omega
  have hpa:1≤p.a∧p.a≤20000:=hop.2.2
  rw [hf] at f0
  rw [ht] at f1
  simp only [he4,hlt,decide_true,za,Value.cells,Value.oneCell',Nat.reduceAdd,Nat.reduceSub,Nat.reduceMul,Nat.reduceLeDiff,Int.reduceEq,Nat.reduceEqDiff,zal]
  refine zam (by kernel_rfl) zaM [(0,0),(1,0),(2,0),(3,0),(4,0),(5,0),(6,0),(7,0),(8,0),(9,0),(10,0)] (by kernel_rfl) rfl (by kernel_rfl) ?_
  by_cases hft:p.f=p.t
  · have hft2:(f:Int)=(t:Int):=by omega
    simp only [he4,f0,f1,hft2,zO,decide_true,zab,Nat.add_zero,Int.toNat_natCast,za,Value.cells,Value.oneCell',Nat.reduceAdd,Nat.reduceSub,Nat.reduceMul,Nat.reduceLeDiff,Int.reduceEq,Nat.reduceEqDiff,zx,zal]
    refine⟨by omega,rfl,by omega,rfl,?_,y4⟩
    unfold cpyV cpy
    rw [if_neg n0,if_neg h20,if_neg (fun hh=>hh hall),if_pos ⟨p,hpm,hft⟩]
  have hft2:¬ (f:Int)=(t:Int):=by omega
  simp only [he4,f0,f1,hft2,zO,decide_false,zab,Nat.add_zero,Int.toNat_natCast,za,Value.cells,Value.oneCell',Nat.reduceAdd,Nat.reduceSub,Nat.reduceMul,Nat.reduceLeDiff,Int.reduceEq,Nat.reduceEqDiff,zx,zal]
  refine⟨by omega,rfl,by omega,rfl,?_⟩
  have hbd:∀ j:Int,-420000≤balA (aft es day (ps.take i)) day j∧balA (aft es day (ps.take i)) day j≤420000:=fun j=>zkP day j hok hl2 (fun q hq=>hall q (List.mem_of_mem_take hq)) (by rw [List.length_take]; omega)
  have hbf:=hbd f
  have hbt:=hbd t
  have hgg:g0≠g:=by
    rintro rfl
    rcases hp with hp | ⟨g1,o1,cur,ct,fr,h1,h2,_⟩
    · have:=congrArg List.length hp
      rw [zaI] at this
      simp at this
      omega
    · cases h1
      have:=zt h2
      omega
  refine zam (by kernel_rfl) zaM [(0,0),(1,0),(2,0),(3,0),(4,0),(5,0),(6,0),(7,0),(8,0),(9,0),(10,0),(11,0),(12,0),(13,0),(14,0),(15,1)] (by kernel_rfl) rfl (by kernel_rfl) ?_
  simp only [he4,f0,f2,hg4,ints_getElem? (bals k (aft es day (ps.take i)) day) f (by rw [zm]; omega),zab,Nat.add_zero,Int.toNat_natCast,zW,za,Value.cells,Value.oneCell',Nat.reduceAdd,Nat.reduceSub,Nat.reduceMul,Nat.reduceLeDiff,Int.reduceEq,Nat.reduceEqDiff,zx,zal]
  refine⟨by omega,rfl,by omega,rfl,by omega,rfl,?_⟩
  rw [zL _ day hf8]
  refine⟨by rw [zf]; omega,by omega,rfl,?_⟩
  refine zax hg4 (by simp [zl,zm]; omega) fun h6 g6 u6=>?_
  rw [zbn _ _ _ (by rw [zl,zm]; omega),ints_set] at g6
  have f1':zT h6 (some ⟨g0,off+i*3+1,none⟩)=some (.int .i64 t):=by rw [← f1]; exact zkq (u6.old _ hgg)
  have f2':zT h6 (some ⟨g0,off+i*3+2,none⟩)=some (.int .i64 p.a):=by rw [← f2]; exact zkq (u6.old _ hgg)
  have gt:((bals k (aft es day (ps.take i)) day).set f ((bals k (aft es day (ps.take i)) day).getD f 0 - p.a)).getD t 0=balA (aft es day (ps.take i)) day (t:Int):=by
    rw [zdb,if_neg (by omega),zL _ day ht8]
  rw [← zL (n:=k) _ day hf8] at g6
  simp only [zW,za,Value.cells,Value.oneCell',Nat.reduceAdd,Nat.reduceSub,Nat.reduceMul,Nat.reduceLeDiff,Int.reduceEq,Nat.reduceEqDiff,zx,zal]
  refine zam (by kernel_rfl) zaM [(0,0),(1,0),(2,0),(3,0),(4,0),(5,0),(6,0),(7,0),(8,0),(9,0),(10,0),(11,0),(12,0),(13,0),(14,0),(15,1)] (by kernel_rfl) rfl (by kernel_rfl) ?_
  simp only [he4,f1',f2',g6,ints_getElem? ((bals k (aft es day (ps.take i)) day).set f ((bals k (aft es day (ps.take i)) day).getD f 0 - p.a)) t (by simp [zm]; omega),gt,zab,Nat.add_zero,Int.toNat_natCast,zW,za,Value.cells,Value.oneCell',Nat.reduceAdd,Nat.reduceSub,Nat.reduceMul,Nat.reduceLeDiff,Int.reduceEq,Nat.reduceEqDiff,zx,zal]
  refine⟨by omega,rfl,by omega,rfl,by omega,rfl,by rw [zf]; omega,by omega,rfl,?_⟩
  refine zax g6 (by simp [zl,zm]; omega) fun h7 g7 u7=>?_
  rw [zbn _ _ _ (by simp [zl,zm]; omega),ints_set] at g7
  have e7:zdI (bals k (aft es day (ps.take i)) day) f t p.a=bals k (aft es day (ps.take (i+1))) day:=by
    rw [zlD hip,← hpe]
    exact zeB (e:=pmE day p) (by show day≤day; omega) hf ht hf8 ht8
  have g8:h7[g]?=some (.cells (ints (bals k (aft es day (ps.take (i+1))) day)).toArray 2):=by
    rw [← e7]
    unfold zdI
    rw [gt]
    exact g7
  simp only [he4,zW,za,Value.cells,Value.oneCell',Nat.reduceAdd,Nat.reduceSub,Nat.reduceMul,Nat.reduceLeDiff,Int.reduceEq,Nat.reduceEqDiff,zx,zal]
  refine⟨by rw [zf]; omega,zi (by kernel_rfl) ⟨u7.ext (u6.ext x4 hsz) hsz,i+1,by omega,rfl,g8,fun q hq=>?_⟩ meas⟩
  rw [List.take_add_one,List.getElem?_eq_getElem hip,← hpe] at hq
  rcases List.mem_append.1 hq with hq | hq
  · exact hne q hq
  · simp at hq; rw [hq]; exact hft
end Go.Proofs.YtepaekbjoombpaaGreatDoor
end
section
namespace Go.Proofs.YtepaekbjoombpaaGreatDoor
open Go Go.Proofs Go.Eng Go.Run Tab
set_option maxRecDepth 100000
set_option linter.unusedSimpArgs false
set_option linter.unusedVariables false
set_option linter.defProp false
set_option maxHeartbeats 4000000
def adjL (xs:List Int):Prop:=∀ i,i+1<xs.length→xs.getD i 0<xs.getD (i+1) 0
def adjE (xs:List Int):Prop:=∀ i,i+1<xs.length→xs.getD i 0≤xs.getD (i+1) 0
theorem zq4 {x:Int}{xs:List Int}:adjL (x::xs)↔(0<xs.length→x<xs.getD 0 0)∧adjL xs:=by
  constructor
  · intro h
    refine⟨fun h0=>h 0 (by rw [List.length_cons]; omega),fun i hi=>?_⟩
    exact h (i+1) (by rw [List.length_cons]; omega)
  · rintro⟨h1,h2⟩ i hi
    rw [List.length_cons] at hi
    match i with
    | 0=>exact h1 (by omega)
    | i+1=>exact h2 i (by omega)
theorem zqR {x:Int}{xs:List Int}:adjE (x::xs)↔(0<xs.length→x≤xs.getD 0 0)∧adjE xs:=by
  constructor
  · intro h
    refine⟨fun h0=>h 0 (by rw [List.length_cons]; omega),fun i hi=>?_⟩
    exact h (i+1) (by rw [List.length_cons]; omega)
  · rintro⟨h1,h2⟩ i hi
    rw [List.length_cons] at hi
    match i with
    | 0=>exact h1 (by omega)
    | i+1=>exact h2 i (by omega)
theorem zb4:∀ {xs:List Int},adjL xs↔xs.Pairwise (·<·)
  | []=>⟨fun _=>List.Pairwise.nil,fun _ i hi=>by simp at hi⟩
  | [x]=>⟨fun _=>by simp,fun _ i hi=>by simp at hi⟩
  | x::y::xs=>by
    rw [zq4,zb4 (xs:=y::xs)]
    constructor
    · rintro⟨h1,h2⟩
      have h1:x<y:=h1 (by simp)
      refine List.pairwise_cons.2 ⟨fun z hz=>?_,h2⟩
      rcases List.mem_cons.1 hz with rfl | hz
      · exact h1
      · have:=(List.pairwise_cons.1 h2).1 z hz; omega
    · intro h
      obtain⟨h1,h2⟩:=List.pairwise_cons.1 h
      exact⟨fun _=>h1 y List.mem_cons_self,h2⟩
theorem zgx:∀ {xs:List Int},adjE xs↔xs.Pairwise (·≤·)
  | []=>⟨fun _=>List.Pairwise.nil,fun _ i hi=>by simp at hi⟩
  | [x]=>⟨fun _=>by simp,fun _ i hi=>by simp at hi⟩
  | x::y::xs=>by
    rw [zqR,zgx (xs:=y::xs)]
    constructor
    · rintro⟨h1,h2⟩
      have h1:x≤y:=h1 (by simp)
      refine List.pairwise_cons.2 ⟨fun z hz=>?_,h2⟩
      rcases List.mem_cons.1 hz with rfl | hz
      · exact h1
      · have:=(List.pairwise_cons.1 h2).1 z hz; omega
    · intro h
      obtain⟨h1,h2⟩:=List.pairwise_cons.1 h
      exact⟨fun _=>h1 y List.mem_cons_self,h2⟩
def hds (gs:List (List Int)):List Int:=gs.map fun g=>g.getD 0 0
theorem zdS (gs:List (List Int)):(hds gs).length=gs.length:=by simp [hds]
theorem zeP {gs:List (List Int)}{i:Nat}(hi:i<gs.length):(hds gs).getD i 0=gs[i].getD 0 0:=by simp [hds,List.getD,List.getElem?_eq_getElem hi]
def shp (o:List Int)(gs:List (List Int)):Prop:=(∀ g∈gs,g≠[]∧adjL g)∧adjL (hds gs)∧(∀ x∈o,gs.flatten.count x=1)∧gs.flatten.length=o.length
def prg (gs:List (List Int)):Prop:=(∀ g∈gs,g≠[]∧adjE g)∧(0<gs.length→-1<(hds gs).getD 0 0)∧adjL (hds gs)
theorem zoA {o ys:List Int}{gs:List (List Int)}(ho:o.Pairwise (·<·))(h0:∀ x∈o,0≤x)(hp:ys.Perm gs.flatten)(hs:ys.Pairwise (·≤·)):(prg gs∧ys=o)↔shp o gs:=by
  have hn:o.Nodup:=ho.imp fun h=>by omega
  have key:=LS.ziY (gs:=gs) hn
  constructor
  · rintro⟨⟨h1,h2,h3⟩,rfl⟩
    obtain⟨k1,k2,k3⟩:=key.1 ⟨fun g hg=>zgx.1 (h1 g hg).2,hp.symm⟩
    exact⟨fun g hg=>⟨(h1 g hg).1,zb4.2 (k1 g hg)⟩,h3,k2,k3⟩
  · rintro⟨h1,h2,h3,h4⟩
    obtain⟨k1,k2⟩:=key.2 ⟨fun g hg=>zb4.1 (h1 g hg).2,h3,h4⟩
    refine⟨⟨fun g hg=>⟨(h1 g hg).1,zgx.2 (k1 g hg)⟩,fun hl=>?_,h2⟩,LS.zrK hs ho (hp.trans k2)⟩
    rw [zeP hl]
    have hg:=h1 gs[0] (List.getElem_mem hl)
    have hl0:0<gs[0].length:=List.length_pos_iff.2 hg.1
    have hm:gs[0].getD 0 0∈gs.flatten:=List.mem_flatten.2 ⟨gs[0],List.getElem_mem hl,by
      rw [List.getD_eq_getElem?_getD,List.getElem?_eq_getElem hl0]; exact List.getElem_mem hl0⟩
    have:=h0 _ (k2.mem_iff.1 hm)
    omega
def sumG (es:List En)(day:Int)(g:List Int):Int:=(g.map fun i=>balA es day i).sum
noncomputable def cgr (acc cl:Int)(es:List En)(day:Int)(gs:List (List Int)):Int × Int:=
  open Classical in
  if opn acc cl es [day]≠0 then (0,opn acc cl es [day])
  else if ¬ shp (nz (opL8 (bals 8 es day) 8)) gs then (0,16)
  else if ¬ ∀ g∈gs,sumG es day g=0 then (0,14)
  else ((gs.length:Int),0)
noncomputable def cgrV (acc cl:Int)(es:List En)(day:Int)(gs:List (List Int)):Value:=.tuple #[.int .i64 (cgr acc cl es day gs).1,.int .i64 (cgr acc cl es day gs).2]
theorem zlz {acc cl:Int}{es:List En}{day:Int}{gs:List (List Int)}(h1:opn acc cl es [day]=0)(h2:shp (nz (opL8 (bals 8 es day) 8)) gs)(h3:∀ g∈gs,sumG es day g=0):cgr acc cl es day gs=((gs.length:Int),0):=by
  unfold cgr
  rw [if_neg (by simpa using h1),if_neg (fun h=>h h2),if_neg (fun h=>h h3)]
theorem zjJ {z:Nat→Prop}:∀ {ps:List Nat} {s:Nat},LS.Pt z s ps→∀ i,s.testBit i=true↔∃ p∈ps,p.testBit i=true
  | [],s,h,i=>by
    have h:s=0:=h
    rw [h,Nat.zero_testBit]
    simp
  | p::ps,s,⟨r,h1,h2,h3,h4,h5⟩,i=>by
    rw [h1,Nat.testBit_or,Bool.or_eq_true,zjJ h5 i]
    constructor
    · rintro (h | ⟨q,hq,h⟩)
      · exact⟨p,List.mem_cons_self,h⟩
      · exact⟨q,List.mem_cons_of_mem _ hq,h⟩
    · rintro⟨q,hq,h⟩
      rcases List.mem_cons.1 hq with rfl | hq
      · exact .inl h
      · exact .inr ⟨q,hq,h⟩
theorem pt_dis {z:Nat→Prop}:∀ {ps:List Nat} {s:Nat},LS.Pt z s ps→ps.Pairwise fun p q=>p&&&q=0
  | [],s,h=>List.Pairwise.nil
  | p::ps,s,⟨r,h1,h2,h3,h4,h5⟩=>by
    refine List.pairwise_cons.2 ⟨fun q hq=>LS.zcx fun i hi=>?_,pt_dis h5⟩
    exact LS.zbc h2 i ⟨hi.1,(zjJ h5 i).2 ⟨q,hq,hi.2⟩⟩
structure GS (z:Nat→Prop)(s:Nat)(S:List Nat):Prop where
  dis:S.Pairwise fun p q=>p&&&q=0
  bits:∀ i,s.testBit i=true↔∃ p∈S,p.testBit i=true
  zer:∀ p∈S,z p∧p≠0
theorem GS.of {z:Nat→Prop}{s:Nat}{S ps:List Nat}(h:S.Perm ps)(P:LS.Pt z s ps):GS z s S:=⟨(h.pairwise_iff (fun {x y} h=>by rw [Nat.and_comm]; exact h)).2 (pt_dis P),fun i=>by
    rw [zjJ P i]
    exact⟨fun ⟨p,hp,hi⟩=>⟨p,h.mem_iff.2 hp,hi⟩,fun ⟨p,hp,hi⟩=>⟨p,h.mem_iff.1 hp,hi⟩⟩,fun p hp=>⟨(zjc P (h.mem_iff.1 hp)).2,(zjc P (h.mem_iff.1 hp)).1⟩⟩
theorem zgC (p k:Nat):(acc p k).Nodup:=List.Pairwise.filter _ List.nodup_range
theorem acc_lt (p k:Nat):(acc p k).Pairwise (·<·):=List.Pairwise.filter _ List.pairwise_lt_range
section made
variable {z:Nat→Prop} {s k:Nat} {S:List Nat}
theorem GS.low (G:GS z s S)(hk:∀ i,s.testBit i=true→i<k){p:Nat}(hp:p∈S)(i:Nat)(hi:p.testBit i=true):i<k:=hk i ((G.bits i).2 ⟨p,hp,hi⟩)
theorem GS.ne (G:GS z s S)(hk:∀ i,s.testBit i=true→i<k){p:Nat}(hp:p∈S):0<(acc p k).length:=zjW (G.zer p hp).2 (G.low hk hp)
theorem GS.flat_nodup (G:GS z s S):(S.map fun p=>acc p k).flatten.Nodup:=by
  refine List.pairwise_flatten.2 ⟨fun l hl=>?_,?_⟩
  · obtain⟨p,_,rfl⟩:=List.mem_map.1 hl
    exact zgC p k
  · rw [List.pairwise_map]
    refine G.dis.imp fun {p q} h x hx y hy e=>?_
    subst e
    exact LS.zbc h x ⟨(za4.1 hx).2,(za4.1 hy).2⟩
theorem GS.flat_mem (G:GS z s S)(hk:∀ i,s.testBit i=true→i<k)(i:Nat):i∈(S.map fun p=>acc p k).flatten↔s.testBit i=true:=by
  rw [List.mem_flatten]
  constructor
  · rintro⟨l,hl,hi⟩
    obtain⟨p,hp,rfl⟩:=List.mem_map.1 hl
    exact (G.bits i).2 ⟨p,hp,(za4.1 hi).2⟩
  · intro h
    obtain⟨p,hp,hi⟩:=(G.bits i).1 h
    exact⟨_,List.mem_map.2 ⟨p,hp,rfl⟩,za4.2 ⟨hk i h,hi⟩⟩
theorem ziD {l m:List Nat}(hl:l.Nodup)(hm:m.Nodup)(h:∀ x,x∈l↔x∈m):l.Perm m:=by
  have h1:=LS.zeu hl fun x hx=>(h x).1 hx
  have h2:=LS.zeu hm fun x hx=>(h x).2 hx
  exact LS.permN hl (fun x hx=>(h x).1 hx) (by omega)
theorem ziH (L:List (List Nat)):(L.map nz).flatten=nz L.flatten:=by
  unfold nz
  rw [List.map_flatten]
theorem nz_adj {l:List Nat}(h:l.Pairwise (·<·)):adjL (nz l):=by
  rw [zb4]
  unfold nz
  rw [List.pairwise_map]
  exact h.imp fun h=>by omega
theorem nz_ne {l:List Nat}(h:0<l.length):nz l≠[]:=fun e=>by
  have:=congrArg List.length e
  rw [zaf,List.length_nil] at this
  omega
theorem GS.shaped (G:GS z s S)(hk:∀ i,s.testBit i=true→i<k){o:List Nat}(hon:o.Nodup)(ho:∀ i,s.testBit i=true↔i∈o)(hf:S.Pairwise fun p q=>(acc p k).getD 0 0≤(acc q k).getD 0 0):shp (nz o) (S.map fun p=>nz (acc p k)):=by
  have e:(S.map fun p=>nz (acc p k))=(S.map fun p=>acc p k).map nz:=by rw [List.map_map]; rfl
  have hperm:(S.map fun p=>acc p k).flatten.Perm o:=ziD G.flat_nodup hon fun x=>by rw [G.flat_mem hk,ho]
  refine⟨fun g hg=>?_,?_,fun x hx=>?_,?_⟩
  · obtain⟨p,hp,rfl⟩:=List.mem_map.1 hg
    exact⟨nz_ne (G.ne hk hp),nz_adj (acc_lt p k)⟩
  · rw [zb4]
    unfold hds
    rw [List.pairwise_map,List.pairwise_map]
    refine (hf.and G.dis).imp_of_mem fun {p q} hp hq h=>?_
    rw [zb9,zb9]
    have hp0:=G.ne hk hp
    have hq0:=G.ne hk hq
    have m1:(acc p k).getD 0 0∈acc p k:=by rw [List.getD_eq_getElem?_getD,List.getElem?_eq_getElem hp0]; exact List.getElem_mem hp0
    have m2:(acc q k).getD 0 0∈acc q k:=by rw [List.getD_eq_getElem?_getD,List.getElem?_eq_getElem hq0]; exact List.getElem_mem hq0
    have hne:(acc p k).getD 0 0≠(acc q k).getD 0 0:=fun e=>by
      rw [e] at m1
      exact LS.zbc h.2 _ ⟨(za4.1 m1).2,(za4.1 m2).2⟩
    have:=h.1
    omega
  · rw [e,ziH]
    have hn:(nz (S.map fun p=>acc p k).flatten).Nodup:=by
      unfold nz
      rw [List.Nodup,List.pairwise_map]
      exact G.flat_nodup.imp fun h=>by omega
    rw [List.Nodup.count hn,if_pos]
    unfold nz at hx ⊢
    obtain⟨i,hi,rfl⟩:=List.mem_map.1 hx
    exact List.mem_map.2 ⟨i,hperm.mem_iff.2 hi,rfl⟩
  · rw [e,ziH,zaf,zaf,hperm.length_eq]
end made
theorem zmI {es:List En}{day:Int}:∀ {g:List Nat},(∀ i∈g,i<8)→sumG es day (nz g)=LS.lsum (l8 es day) g
  | [],_=>rfl
  | i::g,h=>by
    have ih:=zmI (es:=es) (day:=day) (g:=g) fun j hj=>h j (List.mem_cons_of_mem _ hj)
    have e:sumG es day (nz (i::g))=balA es day (i:Int)+sumG es day (nz g):=by
      unfold sumG nz
      rw [List.map_cons,List.map_cons,List.sum_cons]
    rw [e,ih,LS.lsum,zmD (h i List.mem_cons_self)]
theorem zmF {l:Nat→Int}{p k:Nat}(hk:k≤8)(hp:∀ i,p.testBit i=true→i<k):LS.zero l 8 p↔LS.lsum l (acc p k)=0:=by
  rw [zfu]
  unfold LS.zero
  have h1:=zga (F:=fun i=>if p.testBit i then l i else 0) (k:=k) (fun i hi=>by
    show (if p.testBit i then l i else 0)=0
    rw [if_neg]
    intro h
    have:=hp i h
    omega) (8 - k)
  rw [show k+(8 - k)=8 by omega] at h1
  rw [h1]
end Go.Proofs.YtepaekbjoombpaaGreatDoor
end
section
namespace Go.Proofs.YtepaekbjoombpaaGreatDoor
open Go Go.Proofs Go.Eng Go.Run Tab
set_option maxRecDepth 100000
set_option linter.unusedSimpArgs false
set_option linter.unusedVariables false
set_option linter.defProp false
set_option maxHeartbeats 4000000
theorem zij (xs:List Int):(opL8 xs 8).Nodup:=List.Pairwise.filter _ List.nodup_range
theorem opL8_lt (xs:List Int):(opL8 xs 8).Pairwise (·<·):=List.Pairwise.filter _ List.pairwise_lt_range
theorem zfE {es:List En}{day:Int}(i:Nat):(LS.msk (LS.opn (l8 es day)) 8).testBit i=true↔i∈opL8 (bals 8 es day) 8:=by
  rw [LS.zaU,Bool.and_eq_true,decide_eq_true_eq,zbD]
  unfold LS.opn l8
  simp
theorem zg4 {es:List En}{day:Int}{k:Nat}(hok:∀ e∈es,okE k e)(i:Nat)(hi:(LS.msk (LS.opn (l8 es day)) 8).testBit i=true):i<k:=by
  obtain⟨h1,h2⟩:=zbD.1 ((zfE i).1 hi)
  refine Nat.lt_of_not_le fun hle=>h2 ?_
  rw [zL es day h1]
  exact zeb hok hle
def pmP (p:LS.P):Pm:=⟨p.a,p.b,p.x⟩
theorem toP_pmP (p:LS.P):toP (pmP p)=p:=rfl
def pysS (l:Nat→Int)(k:Nat)(S:List Nat):List Pm:=(pysL l (S.map fun p=>acc p k)).map pmP
theorem pysS_toP (l:Nat→Int)(k:Nat)(S:List Nat):(pysS l k S).map toP=pysL l (S.map fun p=>acc p k):=by
  unfold pysS
  rw [List.map_map]
  have:(toP ∘ pmP)=id:=funext fun p=>toP_pmP p
  rw [this,List.map_id]
theorem pre_ne {l:Nat→Int}{s k p t:Nat}{ps:List Nat}(hk:k≤8)(hpt:LS.Pt (LS.zero l 8) s ps)(hm:LS.Most (LS.zero l 8) s ps.length)(hp:p∈ps)(hlow:∀ i,p.testBit i=true→i<k)(ht:t+1<(acc p k).length):LS.lsum l ((acc p k).take (t+1))≠0:=by
  intro h0
  obtain⟨m,hmk,e⟩:=zhU p k (t+1)
  rw [e] at h0
  have hlen:(acc p m).length=t+1:=by rw [← e,List.length_take]; omega
  have hz:LS.zero l 8 (cutS p m):=(zrO (by omega)).2 h0
  obtain⟨q',hq'⟩:∃ q',q'=LS.msk (fun i=>p.testBit i&&!decide (i<m)) 8:=⟨_,rfl⟩
  have hpq:p=cutS p m|||q':=by
    apply Nat.eq_of_testBit_eq
    intro i
    rw [Nat.testBit_or,hq',cutS,LS.zaU,LS.zaU]
    cases hb:p.testBit i with
    | false=>simp
    | true=>
      have:i<8:=by have:=hlow i hb; omega
      rw [decide_eq_true this]
      cases decide (i<m) <;> rfl
  have hd:cutS p m&&&q'=0:=LS.zcx fun i hi=>by
    rw [hq',cutS,LS.zaU,LS.zaU] at hi
    simp at hi
    omega
  have hzp:=(zjc hpt hp).2
  have hz':LS.zero l 8 q':=by
    have h3:=LS.zls l 8 hd
    rw [← hpq] at h3
    unfold LS.zero at hzp hz ⊢
    omega
  refine LS.Pt.whole hpt hm hp hpq hd hz hz' (fun h=>?_) fun h=>?_
  · have h1:0<(acc p m).length:=by omega
    have h2:=za4.1 (List.getElem_mem h1)
    have:=congrArg (fun n=>n.testBit (acc p m)[0]) h
    have h8:(acc p m)[0]<8:=by omega
    simp only [cutS,LS.zaU,Nat.zero_testBit,decide_eq_true h8,h2.2,decide_eq_true h2.1,Bool.and_self] at this
    cases this
  · have:=LS.zeu (zgC p k) (m:=acc p m) fun i hi=>by
      obtain⟨h1,h2⟩:=za4.1 hi
      refine za4.2 ⟨?_,h2⟩
      refine Nat.lt_of_not_le fun hle=>?_
      have h3:=congrArg (fun n=>n.testBit i) h
      have h8:i<8:=by omega
      simp only [hq',LS.zaU,Nat.zero_testBit,decide_eq_true h8,h2,decide_eq_false (show ¬ i<m by omega)] at h3
      cases h3
    omega
theorem zkb {es:List En}{day:Int}{k p t:Nat}(hk:k≤8)(hok:∀ e∈es,okE k e)(hl:es.length≤20):-20000≤LS.lsum (l8 es day) ((acc p k).take t)∧LS.lsum (l8 es day) ((acc p k).take t)≤20000:=by
  obtain⟨m,hmk,e⟩:=zhU p k t
  have h1:=zlx (day:=day) (fun i=>p.testBit i&&decide (i<m)) hok
  have h2:LS.sm (fun i=>if (p.testBit i&&decide (i<m))=true then balA es day (i:Int) else 0) 8=LS.lsum (l8 es day) (acc p m):=by
    rw [zfu]
    have h1:=zga (F:=fun i=>if (p.testBit i&&decide (i<m))=true then balA es day (i:Int) else 0) (k:=m) (fun i hi=>by
      show (if (p.testBit i&&decide (i<m))=true then balA es day (i:Int) else 0)=0
      rw [decide_eq_false (show ¬ i<m by omega)]; simp) (8 - m)
    rw [show m+(8 - m)=8 by omega] at h1
    rw [h1]
    refine LS.zbu fun i hi=>?_
    rw [decide_eq_true hi,Bool.and_true,zmD (by omega)]
  rw [h2] at h1
  rw [e]
  omega
theorem prL_ok {l:Nat→Int}{g:List Nat}{t k:Nat}(ht:t+1<g.length)(hn:g.Nodup)(hb:∀ i∈g,i<k)(h0:LS.lsum l (g.take (t+1))≠0)(h1:-20000≤LS.lsum l (g.take (t+1))∧LS.lsum l (g.take (t+1))≤20000):okP k (pmP (prL l g t))∧(pmP (prL l g t)).f≠(pmP (prL l g t)).t:=by
  have ea:g.getD t 0=g[t]:=by rw [List.getD_eq_getElem?_getD,List.getElem?_eq_getElem (by omega)]; rfl
  have eb:g.getD (t+1) 0=g[t+1]:=by rw [List.getD_eq_getElem?_getD,List.getElem?_eq_getElem ht]; rfl
  have la:=hb g[t] (List.getElem_mem _)
  have lb:=hb g[t+1] (List.getElem_mem _)
  have hab:g[t]≠g[t+1]:=List.pairwise_iff_getElem.1 hn t (t+1) (by omega) ht (by omega)
  unfold prL
  rw [ea,eb]
  unfold LS.pay pmP okP
  split
  · refine⟨⟨?_,?_,?_⟩,?_⟩ <;> simp only <;> omega
  · refine⟨⟨?_,?_,?_⟩,?_⟩ <;> simp only <;> omega
theorem zkI {k:Nat}{cl:Int}{es:List En}{day:Int}{S ps:List Nat}(e0:opn k cl es [day]=0)(hpm:S.Perm ps)(hpt:LS.Pt (LS.zero (l8 es day) 8) (LS.msk (LS.opn (l8 es day)) 8) ps)(hm:LS.Most (LS.zero (l8 es day) 8) (LS.msk (LS.opn (l8 es day)) 8) S.length) :
    cpy k cl es day (pysS (l8 es day) k S)=(((pysS (l8 es day) k S).length:Int),0)∧(pysS (l8 es day) k S).length+S.length=LS.opens (l8 es day) 8:=by
  obtain⟨hc,hd⟩:=zbZ e0
  obtain⟨ha,hl2,hcl,hok,hso,hft⟩:=zbX hc
  have hk:k≤8:=by omega
  have G:=GS.of hpm hpt
  have hlow:=zg4 (day:=day) hok
  have hS:∀ g∈S.map (fun p=>acc p k),g≠[]:=fun g hg=>by
    obtain⟨p,hp,rfl⟩:=List.mem_map.1 hg
    exact List.length_pos_iff.1 (G.ne hlow hp)
  have hperm:(S.map fun p=>acc p k).flatten.Perm (opL8 (bals 8 es day) 8):=ziD G.flat_nodup (zij _) fun x=>by rw [G.flat_mem hlow,zfE]
  have hlen:(pysS (l8 es day) k S).length+S.length=LS.opens (l8 es day) 8:=by
    have h1:=zhD (l8 es day) (S.map fun p=>acc p k) hS
    rw [List.length_map,hperm.length_eq] at h1
    unfold pysS
    rw [List.length_map,h1]
    exact zeg es day
  have hO:=zbx (bals 8 es day) 8
  have hOe:=zeg es day
  have hall:∀ p∈pysS (l8 es day) k S,okP k p∧p.f≠p.t:=fun x hx=>by
    unfold pysS pysL at hx
    obtain⟨y,hy,rfl⟩:=List.mem_map.1 hx
    obtain⟨g,hg,hy⟩:=List.mem_flatMap.1 hy
    obtain⟨p,hp,rfl⟩:=List.mem_map.1 hg
    rw [zoK] at hy
    obtain⟨t,ht,rfl⟩:=List.mem_map.1 hy
    rw [List.mem_range] at ht
    refine prL_ok (by omega) (zgC p k) (fun i hi=>(za4.1 hi).1) ?_ (zkb hk hok hl2)
    exact pre_ne hk hpt (by rw [← hpm.length_eq]; exact hm) (hpm.mem_iff.1 hp) (G.low hlow hp) (by omega)
  refine⟨zm1 e0 (by omega) (fun p hp=>(hall p hp).1) (fun p hp=>(hall p hp).2) fun i hi=>?_,hlen⟩
  have h1:=zkl (day:=day) (l8 es day) (fun p hp=>(hall p hp).1) i
  rw [pysS_toP,zhA (l8 es day) (S.map fun p=>acc p k) (l8 es day) G.flat_nodup (fun _ _ _ _=>rfl) (fun g hg=>by
    obtain⟨p,hp,rfl⟩:=List.mem_map.1 hg
    exact (zmF hk (G.low hlow hp)).1 (G.zer p hp).1) i] at h1
  unfold aft
  rw [zde,← zmD hi,← h1]
  by_cases h2:i∈(S.map fun p=>acc p k).flatten
  · rw [if_pos h2]
  · rw [if_neg h2]
    refine Classical.byContradiction fun h3=>h2 (hperm.mem_iff.2 (zbD.2 ⟨hi,h3⟩))
theorem znF {k:Nat}{cl:Int}{es:List En}{day:Int}{S ps:List Nat}(e0:opn k cl es [day]=0)(hpm:S.Perm ps)(hpt:LS.Pt (LS.zero (l8 es day) 8) (LS.msk (LS.opn (l8 es day)) 8) ps)(hf:S.Pairwise fun p q=>(acc p k).getD 0 0≤(acc q k).getD 0 0) :
    cgr k cl es day (S.map fun p=>nz (acc p k))=((S.length:Int),0):=by
  obtain⟨hc,hd⟩:=zbZ e0
  obtain⟨ha,hl2,hcl,hok,hso,hft⟩:=zbX hc
  have hk:k≤8:=by omega
  have G:=GS.of hpm hpt
  have hlow:=zg4 (day:=day) hok
  have:=zlz (gs:=S.map fun p=>nz (acc p k)) e0 (G.shaped hlow (zij _) zfE hf) fun g hg=>by
    obtain⟨p,hp,rfl⟩:=List.mem_map.1 hg
    rw [zmI fun i hi=>by have:=(za4.1 hi).1; omega]
    exact (zmF hk (G.low hlow hp)).1 (G.zer p hp).1
  rw [this,List.length_map]
end Go.Proofs.YtepaekbjoombpaaGreatDoor
end
section
namespace Go.Proofs.YtepaekbjoombpaaGreatDoor
open Go Go.Proofs Go.Eng Go.Run Tab
set_option maxRecDepth 100000
set_option linter.unusedSimpArgs false
set_option linter.unusedVariables false
set_option linter.defProp false
set_option maxHeartbeats 4000000
set_option linter.defProp false
def zco:=(And.intro (And.intro @zbV @zbS) (And.intro @sz24 @Tryz.underlying40))
def zfg:=(And.intro (And.intro (And.intro @zbV @agg3) (And.intro @by3 @zbS)) (And.intro (And.intro @inf3 @sz24) (And.intro @sz3 @Tryz.underlying40)))
def zee:=(And.intro (And.intro (And.intro @agg2 (And.intro @zbV @by2)) (And.intro @by3 (And.intro @inf2 @zbS))) (And.intro (And.intro @inf3 (And.intro @sz2 @sz24)) (And.intro (And.intro @sz3 @zbH) (And.intro @Tryz.underlying37 @Tryz.underlying40))))
def zgW:=(And.intro (And.intro @agg2 @by2) (And.intro @inf2 (And.intro @sz2 @Tryz.underlying37)))
theorem opL8_cut {k:Nat}{es:List En}{day:Int}(hk:k≤8)(hok:∀ e∈es,okE k e):opL8 (bals k es day) k=opL8 (bals 8 es day) 8:=by
  have key:∀ d,opL8 (bals 8 es day) k=opL8 (bals 8 es day) (min (k+d) 8):=fun d=>by
    induction d with
    | zero=>rw [Nat.add_zero,Nat.min_eq_left hk]
    | succ d ih=>
      rw [ih]
      by_cases h:k+d<8
      · rw [Nat.min_eq_left (by omega),Nat.min_eq_left (by omega),← Nat.add_assoc,zgG,if_pos,List.append_nil]
        rw [zL es day h]
        exact zeb hok (by omega)
      · rw [Nat.min_eq_right (by omega),Nat.min_eq_right (by omega)]
  have h8:=key 8
  rw [Nat.min_eq_right (by omega)] at h8
  rw [← h8]
  unfold opL8
  refine List.filter_congr fun i hi=>?_
  have hi:=List.mem_range.1 hi
  rw [zL es day hi,zL es day (by omega)]
theorem zhS (k:Nat)(cl:Int)(a:Option Addr)(n c:Nat)(es:List En)(day:Int)(h:Eng.Heap)(hr:Row h a (ensV es))(hn:n=es.length)(hl:n≤20)(hok:∀ e∈es,okE k e)(ha:k≤8)(hne:∀ e∈es,e.f≠e.t) :
    zb Tryz.prog 64 #[.agg #[.int .i64 k,.int .i64 cl,.slice a n c],.int .i64 day] h (fun v h'=>(∃ aO cO,v=.slice aO (opL8 (bals 8 es day) 8).length cO∧zJ h' aO (opL8 (bals 8 es day) 8).length (nz (opL8 (bals 8 es day) 8)))∧Ext h h'):=by
  (refine ze Tryz.func64 rfl bod64 ?_; simp only [Tryz.ntmps64,Tryz.results64,za,zh,splice,Value.cells,Value.oneCell',Nat.reduceAdd,Nat.reduceSub,Nat.reduceMul,Nat.reduceLeDiff,Int.reduceEq,Nat.reduceEqDiff,zee])
  refine zb.mono (zef k cl a n c es day _ (hr.push _) hn hl hok ha hne) ?_
  rintro v h1 ⟨⟨b1,m1,c1,rfl,I1,_⟩,x1⟩
  have y1:=x1.of_push
  have hm:=I1.len
  rw [zm] at hm
  subst hm
  simp only [za,Value.cells,Value.oneCell',Nat.reduceAdd,Nat.reduceSub,Nat.reduceMul,Nat.reduceLeDiff,Int.reduceEq,Nat.reduceEqDiff,zee]
  refine zo [6,7,11,12,13,14,15,16,17,18,19,20,21,22,23,24,25] (fun e h'=>Ext h1 h'∧∃ i:Nat,i≤m1∧e 7=.int .i64 i∧∃ aO cO,e 6=.slice aO (opL8 (bals m1 es day) i).length cO∧OwnI h1.size h' 3 aO (opL8 (bals m1 es day) i).length cO (nz (opL8 (bals m1 es day) i))) (fun e _=>match e 7 with | .int _ q=>m1 - q.toNat | _=>0) ⟨Ext.refl _,0,by omega,rfl,none,0,rfl,OwnI.nil _ _ _⟩ ?_
  rintro e h2 ⟨x2,i,hi,he,aO,cO,heO,OO⟩
  by_cases hik:i<m1
  · have hlt:(i:Int)<(m1:Int):=by omega
    have meas:m1 - ((i:Int)+1).toNat<m1 - (i:Int).toNat:=by omega
    have ci:=(I1.ext x2).cell (j:=i) (by rw [zm]; omega)
    have si:=(I1.ext x2).isSome (by rw [zm]; omega)
    have nx:=zgG (bals m1 es day) i
    have le:=zbx (bals m1 es day) i
    simp only [he,heO,hlt,ci,decide_true,Int.toNat_natCast,za,Value.cells,Value.oneCell',Nat.reduceAdd,Nat.reduceSub,Nat.reduceMul,Nat.reduceLeDiff,Int.reduceEq,Nat.reduceEqDiff,zee]
    refine⟨by omega,si,?_⟩
    by_cases h0:(bals m1 es day).getD i 0=0
    · rw [if_pos h0,List.append_nil] at nx
      simp only [he,heO,h0,decide_true,Bool.not_true,za,Value.cells,Value.oneCell',Nat.reduceAdd,Nat.reduceSub,Nat.reduceMul,Nat.reduceLeDiff,Int.reduceEq,Nat.reduceEqDiff,zee]
      refine⟨by rw [zf]; omega,zi (by kernel_rfl) ⟨x2,i+1,by omega,rfl,aO,cO,by rw [nx]; rfl,by rw [nx]; exact OO⟩ meas⟩
    · rw [if_neg h0] at nx
      simp only [he,heO,h0,decide_false,Bool.not_false,za,Value.cells,Value.oneCell',Nat.reduceAdd,Nat.reduceSub,Nat.reduceMul,Nat.reduceLeDiff,Int.reduceEq,Nat.reduceEqDiff,zee]
      have OO':=OO.ext ((Ext.refl h2).push (.cells #[.int .i64 (i:Int)] 3))
      refine ziQ (m0:=h1.size) (len:=(opL8 (bals m1 es day) i).length) (m:=1) (ys:=[(i:Int)]) rfl rfl OO' (by rw [zaa]; have:=x2.size; omega) (zaB zu) (by omega) fun a' cap' h5 O5 A5=>?_
      have ell:(opL8 (bals m1 es day) i).length+1=(opL8 (bals m1 es day) (i+1)).length:=by rw [nx]; simp
      rw [zjz,← nx,ell] at O5
      simp only [he,za,Value.cells,Value.oneCell',Nat.reduceAdd,Nat.reduceSub,Nat.reduceMul,Nat.reduceLeDiff,Int.reduceEq,Nat.reduceEqDiff,zee]
      refine⟨by rw [zf]; omega,zi (by kernel_rfl) ⟨A5.extN OO' (x2.push _) (Nat.le_refl _),i+1,by omega,rfl,a',cap',by rw [← ell]; rfl,O5⟩ meas⟩
  obtain rfl:i=m1:=by omega
  simp only [he,heO,show ¬ ((i:Int)<(i:Int)) by omega,decide_false,za,Value.cells,Value.oneCell',Nat.reduceAdd,Nat.reduceSub,Nat.reduceMul,Nat.reduceLeDiff,Int.reduceEq,Nat.reduceEqDiff,zee]
  rw [opL8_cut ha hok] at OO ⊢
  exact⟨⟨aO,cO,rfl,OO.ints⟩,y1.trans x2⟩
def l_ (xs:List Int)(i:Nat):Int:=xs.getD i 0
theorem zhP {F:Nat→Int}{B:Int}(hB:0≤B)(hF:∀ i,-B≤F i∧F i≤B):∀ n:Nat,-(B*(n:Int))≤LS.sm F n∧LS.sm F n≤B*(n:Int)
  | 0=>by simp [LS.sm]
  | n+1=>by
    have ih:=zhP hB hF n
    have h1:=hF n
    have e:B*((n+1:Nat):Int)=B*(n:Int)+B:=by rw [Int.natCast_add,Int.mul_add]; simp
    rw [LS.sm,e]
    omega
theorem sumOf136 (b:Option Addr)(m c:Nat)(xs:List Int)(s:Nat)(h:Eng.Heap)(I:zJ h b m xs)(hm:m≤8)(hs:s<1000000)(hb:∀ i,-20000≤l_ xs i∧l_ xs i≤20000) :
    zb Tryz.prog 136 #[.slice b m c,.int .i64 s] h (fun v h'=>v=.int .i64 (LS.sm (fun i=>if s.testBit i then l_ xs i else 0) m)∧h'=h):=by
  have hl:=I.len
  (refine ze Tryz.func136 rfl bod136 ?_; simp only [Tryz.ntmps136,Tryz.results136,za,zh,splice,Value.cells,Value.oneCell',Nat.reduceAdd,Nat.reduceSub,Nat.reduceMul,Nat.reduceLeDiff,Int.reduceEq,Nat.reduceEqDiff,zgW])
  have hF:∀ i,-20000≤(fun i=>if s.testBit i then l_ xs i else 0) i∧(fun i=>if s.testBit i then l_ xs i else 0) i≤20000:=fun i=>by
    show -20000≤(if s.testBit i then l_ xs i else 0)∧(if s.testBit i then l_ xs i else 0)≤20000
    have:=hb i
    split <;> omega
  refine zo [5,6,7,8,9,10,11,12,13,14,15,16,17,18,19,20,21,22,23] (fun e h'=>h'=h∧∃ i:Nat,i≤m∧e 6=.int .i64 i∧e 5=.int .i64 (LS.sm (fun i=>if s.testBit i then l_ xs i else 0) i)) (fun e _=>match e 6 with | .int _ q=>m - q.toNat | _=>0) ⟨rfl,0,by omega,rfl,rfl⟩ ?_
  rintro e h1 ⟨rfl,i,hi,he,he5⟩
  by_cases him:i<m
  · have hlt:(i:Int)<(m:Int):=by omega
    have meas:m - ((i:Int)+1).toNat<m - (i:Int).toNat:=by omega
    have ci:=I.cell (j:=i) (by omega)
    have si:=I.isSome (by omega)
    have ht:=zkV s i hs
    have h1:=zhP (by decide) hF i
    have h2:=zhP (by decide) hF (i+1)
    have h3:=hb i
    have ex:xs.getD i 0*(if s.testBit i then (1:Int) else 0)=if s.testBit i then l_ xs i else 0:=by
      cases s.testBit i
      · exact Int.mul_zero _
      · exact Int.mul_one _
    have en:LS.sm (fun i=>if s.testBit i then l_ xs i else 0) (i+1)=LS.sm (fun i=>if s.testBit i then l_ xs i else 0) i+(if s.testBit i then l_ xs i else 0):=rfl
    have hx:-20000≤(if s.testBit i then l_ xs i else 0)∧(if s.testBit i then l_ xs i else 0)≤20000:=hF i
    simp only [he,he5,hlt,decide_true,za,Value.cells,Value.oneCell',Nat.reduceAdd,Nat.reduceSub,Nat.reduceMul,Nat.reduceLeDiff,Int.reduceEq,Nat.reduceEqDiff,zgW]
    refine zam (by kernel_rfl) zaM [(0,0),(1,0),(2,0),(3,0),(4,0),(5,0),(6,0),(7,0),(8,0),(9,0),(10,0),(11,0)] (by kernel_rfl) rfl (by kernel_rfl) ?_
    simp only [he,he5,ci,ht,ex,Int.toNat_natCast,zW,za,Value.cells,Value.oneCell',Nat.reduceAdd,Nat.reduceSub,Nat.reduceMul,Nat.reduceLeDiff,Int.reduceEq,Nat.reduceEqDiff,zx,zgW]
    refine⟨by omega,si,by omega,by simp [IntKind.bits]; omega,by rw [zf]; omega,by rw [zf]; omega,by rw [zf]; omega,zi (by kernel_rfl) ⟨rfl,i+1,by omega,rfl,?_⟩ meas⟩
    rw [en]; rfl
  obtain rfl:i=m:=by omega
  simp only [he,he5,show ¬ ((i:Int)<(i:Int)) by omega,decide_false,za,Value.cells,Value.oneCell',Nat.reduceAdd,Nat.reduceSub,Nat.reduceMul,Nat.reduceLeDiff,Int.reduceEq,Nat.reduceEqDiff,zgW]
theorem zi8 {z:Nat→Prop}{s k:Nat}(h:LS.Most z s k):k≤s:=by
  rcases h.is with h | h
  · omega
  · exact gr_le h
theorem zpj {z:Nat→Prop}{s i part best:Nat}(L:LS.Loop z s i part best):best≤s:=by
  rcases L.is with h | ⟨q,j,a,b,c,d,e⟩
  · omega
  · have h1:=gr_le d
    have h2:q≤s:=by rw [← a]; exact Nat.and_le_right
    omega
theorem most109 (b:Option Addr)(m c:Nat)(xs:List Int)(hm:m≤8)(hb:∀ i,-20000≤l_ xs i∧l_ xs i≤20000) :
    ∀ (left:Nat) (h:Eng.Heap),zJ h b m xs→left<256→LS.zero (l_ xs) m left→zb Tryz.prog 109 #[.slice b m c,.int .i64 left] h (fun v h'=>(∃ j:Nat,v=.int .i64 j∧LS.Most (LS.zero (l_ xs) m) left j)∧h'=h):=fun left=>by
  induction left using Nat.strongRecOn with
  | ind left ih=>
    intro h I hlt hz
    (refine ze Tryz.func109 rfl bod109 ?_; simp only [Tryz.ntmps109,Tryz.results109,za,zh,splice,Value.cells,Value.oneCell',Nat.reduceAdd,Nat.reduceSub,Nat.reduceMul,Nat.reduceLeDiff,Int.reduceEq,Nat.reduceEqDiff,Tryz.underlying3])
    by_cases h0:(left:Int)=0
    · obtain rfl:left=0:=by omega
      simp only [h0,decide_true,za,Value.cells,Value.oneCell',Nat.reduceAdd,Nat.reduceSub,Nat.reduceMul,Nat.reduceLeDiff,Int.reduceEq,Nat.reduceEqDiff,Tryz.underlying3]
      exact⟨0,rfl,LS.zkG _⟩
    have h0':left≠0:=by omega
    obtain⟨i,hi8,hlow,hbit⟩:=zof h0' hlt
    have hlow2:zan .and .i64 (left:Int) (0 - (left:Int))=((2 ^ i:Nat):Int):=by rw [Int.zero_sub]; exact hlow
    simp only [h0,decide_false,za,Value.cells,Value.oneCell',Nat.reduceAdd,Nat.reduceSub,Nat.reduceMul,Nat.reduceLeDiff,Int.reduceEq,Nat.reduceEqDiff,Tryz.underlying3]
    refine zo [5,6,10,11,12,13,14,15,16,17,18,19,20,21,22,23,24,25,26,27,28,29,30,31,32,33,34,35,36] (fun e h'=>h'=h∧∃ part best:Nat,e 6=.int .i64 part∧e 5=.int .i64 best∧LS.Loop (LS.zero (l_ xs) m) left i part best) (fun e _=>match e 6 with | .int _ q=>q.toNat | _=>0) ⟨rfl,left,0,rfl,rfl,LS.Loop.start _ _ _⟩ ?_
    rintro e h1 ⟨rfl,part,best,he,he5,L⟩
    have hbl:=zpj L
    by_cases hp0:0<part
    case neg=>
      obtain rfl:part=0:=by omega
      simp only [he,he5,show ¬ ((0:Int)<((0:Nat):Int)) by omega,decide_false,za,Value.cells,Value.oneCell',Nat.reduceAdd,Nat.reduceSub,Nat.reduceMul,Nat.reduceLeDiff,Int.reduceEq,Nat.reduceEqDiff,Tryz.underlying3]
      exact⟨best,rfl,L.fin hbit⟩
    have hp1:(0:Int)<(part:Int):=by omega
    have hpa:part&&&left=part:=L.in_
    have hple:part≤left:=by rw [← hpa]; exact Nat.and_le_right
    have epn:(part:Int) - 1=((part - 1:Nat):Int):=by omega
    have enx:zan .and .i64 ((part - 1:Nat):Int) (left:Int)=(((part - 1)&&&left:Nat):Int):=zdr _ _ (by omega) (by omega)
    have hnl:=LS.zn3 (p:=part) (l:=left) hp0
    have e2i:2 ^ i≤128:=by
      have:2 ^ i≤2 ^ 7:=Nat.pow_le_pow_right (by decide) (by omega)
      simpa using this
    have efb:zan .and .i64 (part:Int) ((2 ^ i:Nat):Int)=((part&&&2 ^ i:Nat):Int):=zdr _ _ (by omega) (by omega)
    have meas:(((part - 1)&&&left:Nat):Int).toNat<(part:Int).toNat:=by omega
    by_cases hbp:part.testBit i=true
    case neg=>
      have e0:part&&&2 ^ i=0:=by rw [zgZ,if_neg hbp]
      rw [e0] at efb
      have efb2:zan .and .i64 (part:Int) ((2 ^ i:Nat):Int)=0:=efb
      simp only [he,he5,hp1,hlow,hlow2,efb2,zO,zU,decide_true,epn,enx,za,Value.cells,Value.oneCell',Nat.reduceAdd,Nat.reduceSub,Nat.reduceMul,Nat.reduceLeDiff,Int.reduceEq,Nat.reduceEqDiff,Tryz.underlying3]
      exact⟨by rw [zf]; omega,by rw [zf]; omega,zi (by kernel_rfl) ⟨rfl,_,best,rfl,rfl,L.skip hp0 fun _ h=>hbp h⟩ meas⟩
    have e0:part&&&2 ^ i=2 ^ i:=by rw [zgZ,if_pos hbp]
    rw [e0] at efb
    have ne0:¬ ((2 ^ i:Nat):Int)=0:=by
      have:0<2 ^ i:=Nat.pow_pos (by decide)
      omega
    simp only [he,he5,hp1,hlow,hlow2,efb,ne0,zO,zU,decide_true,decide_false,za,Value.cells,Value.oneCell',Nat.reduceAdd,Nat.reduceSub,Nat.reduceMul,Nat.reduceLeDiff,Int.reduceEq,Nat.reduceEqDiff,Tryz.underlying3]
    refine⟨by rw [zf]; omega,?_⟩
    refine zb.mono (sumOf136 b m c xs part h1 I hm (by omega) hb) ?_
    rintro v h2 ⟨rfl,rfl⟩
    by_cases hzp:LS.zero (l_ xs) m part
    case neg=>
      have hzi:¬ LS.sm (fun i=>if part.testBit i then l_ xs i else 0) m=0:=hzp
      simp only [he,he5,hzi,decide_false,Bool.not_false,epn,enx,za,Value.cells,Value.oneCell',Nat.reduceAdd,Nat.reduceSub,Nat.reduceMul,Nat.reduceLeDiff,Int.reduceEq,Nat.reduceEqDiff,Tryz.underlying3]
      exact⟨by rw [zf]; omega,zi (by kernel_rfl) ⟨rfl,_,best,rfl,rfl,L.skip hp0 fun h _=>hzp h⟩ meas⟩
    have hzi:LS.sm (fun i=>if part.testBit i then l_ xs i else 0) m=0:=hzp
    have esub:(left:Int) - (part:Int)=((left - part:Nat):Int):=by omega
    have hzr:=LS.zgL hpa hz hzp
    simp only [he,he5,hzi,decide_true,Bool.not_true,esub,za,Value.cells,Value.oneCell',Nat.reduceAdd,Nat.reduceSub,Nat.reduceMul,Nat.reduceLeDiff,Int.reduceEq,Nat.reduceEqDiff,Tryz.underlying3]
    refine⟨by rw [zf]; omega,?_⟩
    refine zb.mono (ih (left - part) (by omega) h2 I (by omega) hzr) ?_
    rintro v h3 ⟨⟨j,rfl,hj⟩,rfl⟩
    have hjb:=zi8 hj
    have emx:(if (best:Int)<1+(j:Int) then 1+(j:Int) else (best:Int))=((max best (1+j):Nat):Int):=by split <;> omega
    simp only [he,he5,emx,epn,enx,za,Value.cells,Value.oneCell',Nat.reduceAdd,Nat.reduceSub,Nat.reduceMul,Nat.reduceLeDiff,Int.reduceEq,Nat.reduceEqDiff,Tryz.underlying3]
    exact⟨by rw [zf]; omega,by rw [zf]; omega,zi (by kernel_rfl) ⟨rfl,_,_,rfl,rfl,L.take hp0 hzp hj (LS.zkO hj hzr)⟩ meas⟩
theorem bals_ok {k:Nat}{es:List En}{day:Int}(hl:es.length≤20)(hok:∀ e∈es,okE k e)(i:Nat):-20000≤l_ (bals k es day) i∧l_ (bals k es day) i≤20000:=by
  unfold l_
  by_cases h:i<k
  · rw [zL es day h]
    have:=zbG day (i:Int) hok
    omega
  · rw [List.getD_eq_getElem?_getD,List.getElem?_eq_none (by rw [zm]; omega)]
    show -20000≤(0:Int)∧(0:Int)≤20000
    omega
theorem zln {k:Nat}{es:List En}{day:Int}(hk:k≤8)(hok:∀ e∈es,okE k e):LS.zero (l_ (bals k es day)) k=LS.zero (l8 es day) 8:=by
  rw [(cut8 hk (l8_far (day:=day) hok)).1]
  funext s
  unfold LS.zero
  congr 1
  refine LS.zbu fun i hi=>?_
  show (if s.testBit i then (bals k es day).getD i 0 else 0)=(if s.testBit i then (bals 8 es day).getD i 0 else 0)
  rw [zL es day hi,zL es day (by omega)]
theorem zlX (k:Nat)(cl:Int)(a:Option Addr)(n c:Nat)(es:List En)(day:Int)(h:Eng.Heap)(hr:Row h a (ensV es))(hn:n=es.length)(hl:n≤20)(hok:∀ e∈es,okE k e)(ha:k≤8)(hne:∀ e∈es,e.f≠e.t) :
    zb Tryz.prog 63 #[.agg #[.int .i64 k,.int .i64 cl,.slice a n c],.int .i64 day] h (fun v h'=>(∃ j:Nat,v=.int .i64 j∧LS.Most (LS.zero (l8 es day) 8) (LS.msk (LS.opn (l8 es day)) 8) j)∧Ext h h'):=by
  (refine ze Tryz.func63 rfl bod63 ?_; simp only [Tryz.ntmps63,Tryz.results63,za,zh,splice,Value.cells,Value.oneCell',Nat.reduceAdd,Nat.reduceSub,Nat.reduceMul,Nat.reduceLeDiff,Int.reduceEq,Nat.reduceEqDiff,zfg])
  have q0:=zu (h:=h) (o:=.cells #[.int .i64 k,.int .i64 cl,.slice a n c] 24)
  refine zb.mono (zhS k cl a n c es day _ (hr.push _) hn hl hok ha hne) ?_
  rintro v h1 ⟨⟨aO,cO,rfl,IO⟩,x1⟩
  have y1:=x1.of_push
  have hb1:=x1.get q0
  obtain⟨o,ho⟩:∃ o,o=opL8 (bals 8 es day) 8:=⟨_,rfl⟩
  rw [← ho] at IO ⊢
  have ho8:∀ i∈o,i<8:=fun i hi=>by
    rw [ho] at hi
    exact (zbD.1 hi).1
  have hol:o.length≤8:=by rw [ho]; exact zbx _ 8
  simp only [za,Value.cells,Value.oneCell',Nat.reduceAdd,Nat.reduceSub,Nat.reduceMul,Nat.reduceLeDiff,Int.reduceEq,Nat.reduceEqDiff,zfg]
  refine zo [5,7,11,12,13,14,15,16,17,18,19,20,21,22,23] (fun e h'=>h'=h1∧∃ t w:Nat,t≤o.length∧e 7=.int .i64 t∧e 5=.int .i64 w∧w<256∧∀ i,w.testBit i=true↔i∈o.take t) (fun e _=>match e 7 with | .int _ q=>o.length - q.toNat | _=>0) ⟨rfl,0,0,by omega,rfl,rfl,by omega,fun i=>by simp⟩ ?_
  rintro e h2 ⟨rfl,t,w,ht,he,he5,hw,hbits⟩
  by_cases hto:t<o.length
  · have hlt:(t:Int)<(o.length:Int):=by omega
    have meas:o.length - ((t:Int)+1).toNat<o.length - (t:Int).toNat:=by omega
    obtain⟨i,hi⟩:∃ i,i=o.getD t 0:=⟨_,rfl⟩
    have hio:i∈o:=by rw [hi,List.getD_eq_getElem?_getD,List.getElem?_eq_getElem hto]; exact List.getElem_mem hto
    have hi8:=ho8 i hio
    have ci:=IO.cell (j:=t) (by rw [zaf]; exact hto)
    have si:=IO.isSome (by rw [zaf]; omega)
    rw [zb9,← hi] at ci
    have e1i:(1:Int)*2 ^ i=((2 ^ i:Nat):Int):=by rw [Int.one_mul]; simp
    have h2i:2 ^ i≤128:=by
      have:2 ^ i≤2 ^ 7:=Nat.pow_le_pow_right (by decide) (by omega)
      simpa using this
    have eor:=zlJ w (2 ^ i) (by omega) (by omega)
    have hInK:∀ z:Nat,z≤128→InK .i64 (z:Int):=fun z hz=>by rw [zf]; omega
    simp only [he,he5,hlt,ci,e1i,eor,decide_true,Int.toNat_natCast,za,Value.cells,Value.oneCell',Nat.reduceAdd,Nat.reduceSub,Nat.reduceMul,Nat.reduceLeDiff,Int.reduceEq,Nat.reduceEqDiff,zfg]
    refine⟨by omega,si,by omega,by simp [IntKind.bits]; omega,hInK _ h2i,by rw [zf]; omega,zi (by kernel_rfl) ⟨rfl,t+1,w|||2 ^ i,by omega,rfl,rfl,?_,fun x=>?_⟩ meas⟩
    · have:=Nat.or_lt_two_pow (n:=8) (x:=w) (y:=2 ^ i) (by omega) (by omega)
      simpa using this
    · have e:o.take (t+1)=o.take t++[i]:=by
        rw [List.take_add_one,List.getElem?_eq_getElem hto,hi,List.getD_eq_getElem?_getD,List.getElem?_eq_getElem hto]; rfl
      rw [e,List.mem_append,List.mem_singleton,Nat.testBit_or,Nat.testBit_two_pow,Bool.or_eq_true,hbits,decide_eq_true_eq]
      constructor
      · rintro (h | h)
        · exact .inl h
        · exact .inr h.symm
      · rintro (h | h)
        · exact .inl h
        · exact .inr h.symm
  obtain rfl:t=o.length:=by omega
  rw [List.take_length] at hbits
  simp only [he,he5,hb1,show ¬ ((o.length:Int)<(o.length:Int)) by omega,decide_false,za,Value.cells,Value.oneCell',Nat.reduceAdd,Nat.reduceSub,Nat.reduceMul,Nat.reduceLeDiff,Int.reduceEq,Nat.reduceEqDiff,zfg]
  refine zb.mono (zef k cl a n c es day h2 (hr.ext y1) hn hl hok ha hne) ?_
  rintro v h3 ⟨⟨b3,m3,c3,rfl,I3,_⟩,x3⟩
  have hm:=I3.len
  rw [zm] at hm
  subst hm
  have hAm:w=LS.msk (LS.opn (l8 es day)) 8:=zoM rfl (by rw [← ho]; exact hbits)
  have hAz:LS.zero (l8 es day) 8 w:=zmT rfl hok ha (by rw [← ho]; exact hbits)
  simp only [he5,za,Value.cells,Value.oneCell',Nat.reduceAdd,Nat.reduceSub,Nat.reduceMul,Nat.reduceLeDiff,Int.reduceEq,Nat.reduceEqDiff,zfg]
  refine zb.mono (most109 b3 m3 c3 (bals m3 es day) ha (bals_ok (by omega) hok) w h3 I3 hw (by rw [zln ha hok]; exact hAz)) ?_
  rintro v h4 ⟨⟨j,rfl,hj⟩,rfl⟩
  rw [zln ha hok,hAm] at hj
  simp only [za,Value.cells,Value.oneCell',Nat.reduceAdd,Nat.reduceSub,Nat.reduceMul,Nat.reduceLeDiff,Int.reduceEq,Nat.reduceEqDiff,zfg]
  exact⟨⟨j,rfl,hj⟩,y1.trans x3⟩
theorem zmi (acc cl:Int)(a:Option Addr)(n c:Nat)(es:List En)(day:Int)(h:Eng.Heap)(hr:Row h a (ensV es))(hn:n=es.length)(hl:n≤1000000) :
    zb Tryz.prog 60 #[.agg #[.int .i64 acc,.int .i64 cl,.slice a n c],.int .i64 day] h (fun v h'=>((opn acc cl es [day]=0∧∃ j:Nat,LS.Most (LS.zero (l8 es day) 8) (LS.msk (LS.opn (l8 es day)) 8) j∧v=.tuple #[.int .i64 ((LS.opens (l8 es day) 8:Nat) - (j:Nat):Int),.int .i64 0]) ∨
      (opn acc cl es [day]≠0∧v=.tuple #[.int .i64 0,.int .i64 (opn acc cl es [day])]))∧Ext h h'):=by
  (refine ze Tryz.func60 rfl bod60 ?_; simp only [Tryz.ntmps60,Tryz.results60,za,zh,splice,Value.cells,Value.oneCell',Nat.reduceAdd,Nat.reduceSub,Nat.reduceMul,Nat.reduceLeDiff,Int.reduceEq,Nat.reduceEqDiff,zco])
  have q0:=zu (h:=h) (o:=.cells #[.int .i64 acc,.int .i64 cl,.slice a n c] 24)
  refine zb.mono (zca acc cl a n c es day _ (hr.push _) hn hl) ?_
  rintro v h1 ⟨rfl,x1⟩
  have hb1:=x1.get q0
  have y1:=x1.of_push
  by_cases e0:opn acc cl es [day]=0
  case neg=>
    have hd0:=decide_eq_false e0
    simp only [hd0,hb1,Bool.not_false,za,Value.cells,Value.oneCell',Nat.reduceAdd,Nat.reduceSub,Nat.reduceMul,Nat.reduceLeDiff,Int.reduceEq,Nat.reduceEqDiff,zco]
    refine zb.mono (zca acc cl a n c es day h1 (hr.ext y1) hn hl) ?_
    rintro v h2 ⟨rfl,x2⟩
    simp only [za,Value.cells,Value.oneCell',Nat.reduceAdd,Nat.reduceSub,Nat.reduceMul,Nat.reduceLeDiff,Int.reduceEq,Nat.reduceEqDiff,zco]
    exact⟨.inr e0,y1.trans x2⟩
  obtain⟨hc,hd⟩:=zbZ e0
  obtain⟨ha,hl2,hcl,hok,hso,hft⟩:=zbX hc
  obtain⟨k,rfl⟩:∃ k:Nat,acc=k:=⟨acc.toNat,by omega⟩
  have hd1:=decide_eq_true e0
  simp only [hd1,hb1,Bool.not_true,za,Value.cells,Value.oneCell',Nat.reduceAdd,Nat.reduceSub,Nat.reduceMul,Nat.reduceLeDiff,Int.reduceEq,Nat.reduceEqDiff,zco]
  refine zoe (by kernel_rfl) zjx (.quiet 0 (.quiet 1 (.quiet 4 (.quiet 5 (.keep 2 (.quiet 3 (.keep 6 (.quiet 7 (.quiet 8 (.quiet 9 (.fin))))))))))) (by kernel_rfl) rfl (by kernel_rfl) ?_
  simp only [hb1,za,Value.cells,Value.oneCell',Nat.reduceAdd,Nat.reduceSub,Nat.reduceMul,Nat.reduceLeDiff,Int.reduceEq,Nat.reduceEqDiff,zx,za5,zco]
  refine ziU fun h2 x2=>?_
  simp only [za,Value.cells,Value.oneCell',Nat.reduceAdd,Nat.reduceSub,Nat.reduceMul,Nat.reduceLeDiff,Int.reduceEq,Nat.reduceEqDiff,zx,za5,zco]
  have y2:=y1.trans x2
  refine zb.mono (zhS k cl a n c es day h2 (hr.ext y2) hn (by omega) hok (by omega) hft) ?_
  rintro v h3 ⟨⟨aO,cO,rfl,IO⟩,x3⟩
  refine⟨x3,?_⟩
  have hb3:=x3.get (x2.get hb1)
  try simp only [hb3,za,Value.cells,Value.oneCell',Nat.reduceAdd,Nat.reduceSub,Nat.reduceMul,Nat.reduceLeDiff,Int.reduceEq,Nat.reduceEqDiff,zx,za5,zco]
  refine ziU fun h4 x4=>?_
  have y4:=(y2.trans x3).trans x4
  simp only [x4.get hb3,za,Value.cells,Value.oneCell',Nat.reduceAdd,Nat.reduceSub,Nat.reduceMul,Nat.reduceLeDiff,Int.reduceEq,Nat.reduceEqDiff,zx,za5,zco]
  refine zb.mono (zlX k cl a n c es day h4 (hr.ext y4) hn (by omega) hok (by omega) hft) ?_
  rintro v h5 ⟨⟨j,rfl,hj⟩,x5⟩
  refine⟨x5,?_⟩
  have hO:=zbx (bals 8 es day) 8
  have hjb:=zi8 hj
  have hmk:LS.msk (LS.opn (l8 es day)) 8<256:=by
    refine Nat.lt_pow_two_of_testBit (n:=8) _ fun i hi=>?_
    rw [LS.zaU,decide_eq_false (by omega)]; rfl
  try simp only [za,Value.cells,Value.oneCell',Nat.reduceAdd,Nat.reduceSub,Nat.reduceMul,Nat.reduceLeDiff,Int.reduceEq,Nat.reduceEqDiff,zx,za5,zco]
  refine⟨by rw [zf]; omega,?_⟩
  refine zqX fun h6 x6=>?_
  simp only [za,Value.cells,Value.oneCell',Nat.reduceAdd,Nat.reduceSub,Nat.reduceMul,Nat.reduceLeDiff,Int.reduceEq,Nat.reduceEqDiff,zco]
  exact⟨.inl ⟨e0,j,hj,by rw [← zeg]⟩,((y4.trans x5).trans x6)⟩
end Go.Proofs.YtepaekbjoombpaaGreatDoor
end
section
namespace Go.Proofs
open Go.Shelf
def Tryz.lays189_ren:Go.Shelf.Ren:=⟨fun | 189=>132 | 125=>161 | 257=>164 | 128=>192 | 129=>193 | 294=>194 | 295=>195 | 296=>196 | 297=>197 | 298=>198 | 299=>199 | 216=>130 | 300=>200 | 301=>201 | 328=>222 | 329=>218 | 330=>219 | 331=>223 | 332=>224 | 215=>162 | 343=>234 | n=>n,fun | 28=>40 | 3=>3 | 46=>196 | 0=>0 | 51=>227 | 53=>205 | 4=>4 | 183=>220 | 182=>219 | 131=>224 | 5=>5 | 9=>9 | 218=>244 | 222=>248 | 228=>263 | 229=>264 | n=>n,fun | n=>n⟩
theorem Tryz.lays189:Go.Proofs.Lays.n189 Tryz.prog Tryz.lays189_ren:={
  mixed:=by kernel_rfl
  f125:=Tryz.func161.trans (congrArg some (by kernel_rfl))
  f128:=Tryz.func192.trans (congrArg some (by kernel_rfl))
  f129:=Tryz.func193.trans (congrArg some (by kernel_rfl))
  f189:=Tryz.func132.trans (congrArg some (by kernel_rfl))
  f215:=Tryz.func162.trans (congrArg some (by kernel_rfl))
  f216:=Tryz.func130.trans (congrArg some (by kernel_rfl))
  f257:=Tryz.func164.trans (congrArg some (by kernel_rfl))
  f294:=Tryz.func194.trans (congrArg some (by kernel_rfl))
  f295:=Tryz.func195.trans (congrArg some (by kernel_rfl))
  f296:=Tryz.func196.trans (congrArg some (by kernel_rfl))
  f297:=Tryz.func197.trans (congrArg some (by kernel_rfl))
  f298:=Tryz.func198.trans (congrArg some (by kernel_rfl))
  f299:=Tryz.func199.trans (congrArg some (by kernel_rfl))
  f300:=Tryz.func200.trans (congrArg some (by kernel_rfl))
  f301:=Tryz.func201.trans (congrArg some (by kernel_rfl))
  f328:=Tryz.func222.trans (congrArg some (by kernel_rfl))
  f329:=Tryz.func218.trans (congrArg some (by kernel_rfl))
  f330:=Tryz.func219.trans (congrArg some (by kernel_rfl))
  f331:=Tryz.func223.trans (congrArg some (by kernel_rfl))
  f332:=Tryz.func224.trans (congrArg some (by kernel_rfl))
  f343:=Tryz.func234.trans (congrArg some (by kernel_rfl))
  t0:=Tryz.underlying0
  a0:=Tryz.isAgg0
  z0:=Tryz.sizeOf0
  v0:=Tryz.zeroValue0
  t3:=Tryz.underlying3
  a3:=Tryz.isAgg3
  z3:=Tryz.sizeOf3
  v3:=Tryz.zeroValue3
  t4:=Tryz.underlying4
  a4:=Tryz.isAgg4
  z4:=Tryz.sizeOf4
  v4:=Tryz.zeroValue4
  t5:=Tryz.underlying5
  a5:=Tryz.isAgg5
  z5:=Tryz.sizeOf5
  v5:=Tryz.zeroValue5
  t9:=Tryz.underlying9
  a9:=Tryz.isAgg9
  z9:=Tryz.sizeOf9
  v9:=Tryz.zeroValue9
  t28:=Tryz.underlying40
  a28:=Tryz.isAgg40
  z28:=Tryz.sizeOf40
  v28:=Tryz.zeroValue40
  t46:=Tryz.underlying196
  a46:=Tryz.isAgg196
  z46:=Tryz.sizeOf196
  v46:=Tryz.zeroValue196
  t51:=Tryz.underlying227
  a51:=Tryz.isAgg227
  z51:=Tryz.sizeOf227
  v51:=Tryz.zeroValue227
  t53:=Tryz.underlying205
  a53:=Tryz.isAgg205
  z53:=Tryz.sizeOf205
  v53:=Tryz.zeroValue205
  t131:=Tryz.underlying224
  a131:=Tryz.isAgg224
  z131:=Tryz.sizeOf224
  v131:=Tryz.zeroValue224
  t182:=Tryz.underlying219
  a182:=Tryz.isAgg219
  z182:=Tryz.sizeOf219
  v182:=Tryz.zeroValue219
  t183:=Tryz.underlying220
  a183:=Tryz.isAgg220
  z183:=Tryz.sizeOf220
  v183:=Tryz.zeroValue220
  t218:=Tryz.underlying244
  a218:=Tryz.isAgg244
  z218:=Tryz.sizeOf244
  v218:=Tryz.zeroValue244
  t222:=Tryz.underlying248
  a222:=Tryz.isAgg248
  z222:=Tryz.sizeOf248
  v222:=Tryz.zeroValue248
  t228:=Tryz.underlying263
  a228:=Tryz.isAgg263
  z228:=Tryz.sizeOf263
  v228:=Tryz.zeroValue263
  t229:=Tryz.underlying264
  a229:=Tryz.isAgg264
  z229:=Tryz.sizeOf264
  v229:=Tryz.zeroValue264 }
end Go.Proofs
end
