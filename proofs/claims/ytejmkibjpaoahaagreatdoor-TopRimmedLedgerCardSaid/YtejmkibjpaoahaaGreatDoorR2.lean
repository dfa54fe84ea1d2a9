/- Lemmas. No condition. -/
import Derived.Test.YtejmkibjpaoahaaGreatDoorOk
import Derived.Test.YtejmkibjpaoahaaGreatDoorR1
import Derived.RangeFuncIn
import Derived.LoopNIn
import Derived.ProofKit
set_option linter.unusedSimpArgs false
set_option linter.unusedVariables false
set_option linter.defProp false
section
namespace Go.Proofs.YtejmkibjpaoahaaGreatDoor
open Go Go.Proofs Go.Eng
set_option maxRecDepth 100000
set_option linter.unusedSimpArgs false
set_option linter.unusedVariables false
set_option linter.defProp false
theorem wrap_in64 {n:Int}(h:InK .i64 n):IntKind.i64.wrap n=n:=jI h
theorem gbits_and (a b:Nat)(ha:a<1000000)(hb:b<1000000):nP .and .i64 (a:Int) (b:Int)=((a&&&b:Nat):Int):=by
 have h1:a&&&b<=a:=Nat.and_le_left;unfold nP;show IntKind.i64.wrap ((BitVec.ofInt 64 (a:Int)&&&BitVec.ofInt 64 (b:Int)).toNat:Int)=_;rw[BitVec.toNat_and,BitVec.ofInt_natCast,BitVec.ofInt_natCast,BitVec.toNat_ofNat,BitVec.toNat_ofNat,Nat.mod_eq_of_lt (by omega),Nat.mod_eq_of_lt (by omega)];exact wrap_in64 (by rw[zBS];omega)
theorem gbits_or (a b:Nat)(ha:a<2^20)(hb:b<2^20):nP .or .i64 (a:Int) (b:Int)=((a|||b:Nat):Int):=by
 have h1:a|||b<2^20:=Nat.or_lt_two_pow ha hb;unfold nP;show IntKind.i64.wrap ((BitVec.ofInt 64 (a:Int)|||BitVec.ofInt 64 (b:Int)).toNat:Int)=_;rw[BitVec.toNat_or,BitVec.ofInt_natCast,BitVec.ofInt_natCast,BitVec.toNat_ofNat,BitVec.toNat_ofNat,Nat.mod_eq_of_lt (by omega),Nat.mod_eq_of_lt (by omega)];exact wrap_in64 (by rw[zBS];omega)
theorem gbits_not (a b:Nat)(ha:a<1000000)(h:b&&&a=b):nP .andNot .i64 (a:Int) (b:Int)=((a-b:Nat):Int):=by
 have hb:b<=a:=by rw[<-h];exact Nat.and_le_right
 obtain⟨e1,e2⟩:=LS.part_rest h;have key:a&&&(2^64-1-b)=a-b:=by
  apply Nat.eq_of_testBit_eq;intro i;have h3:(2^64-1-b).testBit i=(decide (i<64)&& !b.testBit i):=by
   have:=Nat.testBit_two_pow_sub_succ (x:=b) (n:=64) (by omega) i;rw[show 2^64-1-b=2^64-(b+1) by omega];exact this
  have h4:a.testBit i=(b.testBit i||(a-b).testBit i):=by
   conv=>lhs;rw[e1]
   rw[Nat.testBit_or]
  have h5:=LS.apart_bit e2 i;have h6:a.testBit i=true->i<64:=fun hi=>by
   refine Classical.byContradiction fun hh=> ?_
   have:a<2^i:=Nat.lt_of_lt_of_le (by omega:a<2^64) (Nat.pow_le_pow_right (by decide) (by omega));rw[Nat.testBit_lt_two_pow this]at hi;cases hi
  rw[Nat.testBit_and,h3];cases hb1:b.testBit i with
  |true=>
   cases hr:(a-b).testBit i with
   |true=>exact absurd ⟨hb1,hr⟩ h5
   |false=>simp
  |false=>
   rw[hb1,Bool.false_or]at h4;cases hr:(a-b).testBit i with
   |true=>
    rw[hr]at h4;simp[h4,h6 h4]
   |false=>
    rw[hr]at h4;simp[h4]
 unfold nP;show IntKind.i64.wrap ((BitVec.ofInt 64 (a:Int)&&& ~~~BitVec.ofInt 64 (b:Int)).toNat:Int)=_;rw[BitVec.toNat_and,BitVec.toNat_not,BitVec.ofInt_natCast,BitVec.ofInt_natCast,BitVec.toNat_ofNat,BitVec.toNat_ofNat,Nat.mod_eq_of_lt (by omega),Nat.mod_eq_of_lt (by omega),key];exact wrap_in64 (by rw[zBS];omega)
theorem low_all:((List.range 256).all fun a=>a==0||(List.range 8).any fun i=>decide (nP .and .i64 (a:Int) (-(a:Int))=((2^i:Nat):Int))&&a.testBit i)=true:=by kernel_rfl
theorem low_bit {a:Nat}(h0:a≠0)(ha:a<256):∃i,i<8/\nP .and .i64 (a:Int) (-(a:Int))=((2^i:Nat):Int)/\a.testBit i=true:=by
 have h:=List.all_eq_true.1 low_all a (List.mem_range.2 ha);rw[Bool.or_eq_true,beq_iff_eq]at h;rcases h with h|h
 .exact absurd h h0
 obtain⟨i,hi,h⟩:=List.any_eq_true.1 h;rw[Bool.and_eq_true,decide_eq_true_eq]at h;exact⟨i,List.mem_range.1 hi,h.1,h.2⟩
theorem and_two (p i:Nat):p&&&2^i=if p.testBit i then 2^i else 0:=by
 apply Nat.eq_of_testBit_eq;intro j;rw[Nat.testBit_and,Nat.testBit_two_pow];by_cases h:i=j
 .subst h;cases hp:p.testBit i<;>simp
 .cases hp:p.testBit i<;>simp[h,Nat.testBit_two_pow]
theorem gbit_test (a j:Nat)(ha:a<1000000):nP .and .i64 ((a:Int)/2^j) 1=if a.testBit j then 1 else 0:=by
 have h2:(a:Int)/2^j=((a/2^j:Nat):Int):=by
  rw[Int.natCast_ediv,Int.natCast_pow];rfl
 have h3:a/2^j<=a:=Nat.div_le_self _ _;have h4:=gbits_and (a/2^j) 1 (by omega) (by omega);rw[h2,show(1:Int)=((1:Nat):Int)from rfl,h4,Nat.and_one_is_mod];have h5:a.testBit j=decide (a/2^j % 2=1):=Nat.testBit_eq_decide_div_mod_eq;rw[h5];by_cases h:a/2^j % 2=1
 .rw[h];simp
 .have:a/2^j % 2=0:=by omega
  rw[this];simp
theorem most_one {z:Nat->Prop}{s k j:Nat}(h:LS.Most z s k)(g:LS.Most z s j):k=j:=by
 have key:∀{k j:Nat},LS.Most z s k->LS.Most z s j->k<=j:=fun{k j} h g=>by
  rcases h.is with e|e
  .omega
  .exact g.le _ e
 exact Nat.le_antisymm (key h g) (key g h)
end Go.Proofs.YtejmkibjpaoahaaGreatDoor
end
section
namespace Go.Proofs.YtejmkibjpaoahaaGreatDoor
open Go Go.Proofs Go.Eng Go.Run Tab
section
variable {K:Value->Eng.Heap->Prop}{h:Eng.Heap}
set_option maxRecDepth 100000
set_option linter.unusedSimpArgs false
set_option linter.unusedVariables false
set_option linter.defProp false
set_option maxHeartbeats 2000000
set_option linter.defProp false
def YtejmkibjpaoahaaGreatDoorG1Fs52:=(And.intro (And.intro (And.intro @agg103 @by3) (And.intro @inf103 @inf3)) (And.intro (And.intro @sz103 @sz3) (And.intro @zero3 (And.intro @Tryz.underlying29 @Tryz.underlying103))))
def YtejmkibjpaoahaaGreatDoorG1Fs109:=(And.intro (And.intro @agg3 @fo184_0) (And.intro @inf3 @sz3))
theorem index_numT {P:Program}{t el:TypeId}{len:Nat}(hu:P.underlying t=some (.array len el))(ha:zF P el=some false)(hi:(P.info? el).isSome=true)(hs:szT P el=1){x i:Operand}{cs:List Value}{j:Nat}{u:Value}{ty:TypeId}{er:Eng.Env}(hx:ev er x= .agg cs.toArray)(hj:ev er i= .int .i64 j)(hl:j<len)(hc:cs[j]? =some u)(H:K u h):aI P (.index t x i) ty er h K:=by
 obtain⟨inf,hinf⟩:=Option.isSome_iff_exists.1 hi;have hsz:inf.size=1:=by simpa[szT,hinf]using hs
 obtain⟨v,h1,h2⟩:=Ar (P:=P) (t:=el) (cs:=cs.toArray) (off:=j*inf.size) (h:=h) (K:=fun v _=>v=u) (by
  rw[hsz,Nat.mul_one];simp only[nT,ha,List.toList_toArray,hc,onV])
 subst h1;refine aK rfl _ H fun w _=> ?_
 have hr:(0:Int)<=(j:Int)/\(j:Int)<len:=⟨by omega,by omega⟩;simp[execOp,Instr.index,hx,hj,asIntOf,run_underlying hu,hr,sizeOf,typeInfo,hinf,h2];intro hh;omega
theorem idsW_arr {cs:Array Value}{q:IntKind}{n:Int}{m:Nat}{el:TypeId}{F:Prop}:Ct (.agg cs) (.int q n) (some (.array m el)) h K F=F:=by unfold Ct;rfl
def nz (l:List Nat):List Int:=l.map fun j:Nat=>(j:Int)
theorem nz_length (l:List Nat):(nz l).length=l.length:=by simp[nz]
theorem nz_getD {l:List Nat}{i:Nat}:(nz l).getD i 0=((l.getD i 0:Nat):Int):=by
 simp only[nz,List.getD_eq_getElem?_getD,List.getElem?_map];cases l[i]? <;>rfl
theorem nz_snoc (l:List Nat)(i:Nat):nz l++[(i:Int)]=nz (l++[i]):=by simp[nz]
theorem app40 {er:Env}{ty:TypeId}{m0:Nat}{x y:Operand}{a b:Option Addr}{len cap m c:Nat}{xs ys:List Int}(hx:ev er x= .slice a len cap)(hy:ev er y= .slice b m c)(O:eG m0 h 3 a len cap xs)(h0h:m0<=h.size)(I:eu h b m ys)(hb:len+m<=100000)(H:∀a' cap' h',eG m0 h' 3 a' (len+m) cap' (xs++ys)->App h h' a a'->K (.slice a' (len+m) cap') h'):aI Tryz.prog (.call ⟨.builtin .append,#[x,y],#[29,29]⟩) ty er h K:=
 WW Tryz.underlying29 Tryz.underlying29 inf3 sz3 (by rw[by3];decide) zero3 hx hy O h0h I hb H
theorem has126 (s i:Nat)(hs:s<1000000)(hi:i<8)(h:Eng.Heap):ak Tryz.prog 109 #[.agg #[.int .i64 s],.int .i64 i] h (fun v h'=>v= .bool (s.testBit i)/\Ext h h'):=by
 (refine Rm Tryz.func109 rfl bod109 ?_;simp only[Tryz.ntmps109,Tryz.results109,coreS,U1,splice,Value.cells,Value.oneCell',Nat.reduceAdd,Nat.reduceSub,Nat.reduceMul,Nat.reduceLeDiff,Int.reduceEq,Nat.reduceEqDiff,YtejmkibjpaoahaaGreatDoorG1Fs109])
 have hb:=gbit_test s i hs;simp only[Int.toNat_natCast,hb];refine⟨by omega,by simp[IntKind.bits];omega,?_,(Ext.refl h).push _⟩;cases s.testBit i<;>rfl
def opL8 (xs:List Int)(k:Nat):List Nat:=(List.range k).filter fun i=> !decide (xs.getD i 0=0)
theorem opL8_next (xs:List Int)(k:Nat):opL8 xs (k+1)=opL8 xs k++if xs.getD k 0=0 then[]else[k]:=by
 unfold opL8;simp only[List.range_succ,List.filter_append,List.filter_cons,List.filter_nil];congr 1;by_cases h:xs.getD k 0=0<;>simp[h]
theorem opL8_le (xs:List Int)(k:Nat):(opL8 xs k).length<=k:=by
 have:=List.length_filter_le (fun i=> !decide (xs.getD i 0=0)) (List.range k);rwa[List.length_range]at this
theorem open97 (xs:List Int)(hl:xs.length=8)(h:Eng.Heap):ak Tryz.prog 52 #[.agg (ints xs).toArray] h (fun v h'=>(∃a c,v= .slice a (opL8 xs 8).length c/\eG h.size h' 3 a (opL8 xs 8).length c (nz (opL8 xs 8)))/\Ext h h'):=by
 obtain⟨b0,b1,b2,b3,b4,b5,b6,b7,rfl⟩:∃b0 b1 b2 b3 b4 b5 b6 b7:Int,xs=[b0,b1,b2,b3,b4,b5,b6,b7]:=by
  match xs,hl with
  |[b0,b1,b2,b3,b4,b5,b6,b7],_=>exact⟨b0,b1,b2,b3,b4,b5,b6,b7,rfl⟩
 obtain⟨xs,hxs⟩:∃xs,xs=[b0,b1,b2,b3,b4,b5,b6,b7]:=⟨_,rfl⟩;have h9:(ints xs).toArray= #[.int .i64 b0,.int .i64 b1,.int .i64 b2,.int .i64 b3,.int .i64 b4,.int .i64 b5,.int .i64 b6,.int .i64 b7]:=by rw[hxs];rfl
 rw[<-hxs]at hl ⊢;rw[h9]
 (refine Rm Tryz.func52 rfl bod52 ?_;simp only[Tryz.ntmps52,Tryz.results52,coreS,U1,splice,Value.cells,Value.oneCell',Nat.reduceAdd,Nat.reduceSub,Nat.reduceMul,Nat.reduceLeDiff,Int.reduceEq,Nat.reduceEqDiff,YtejmkibjpaoahaaGreatDoorG1Fs52])
 have x0:Ext h (h.push (.cells #[.int .i64 b0,.int .i64 b1,.int .i64 b2,.int .i64 b3,.int .i64 b4,.int .i64 b5,.int .i64 b6,.int .i64 b7] 103)):=(Ext.refl h).push _;generalize h.push (.cells #[.int .i64 b0,.int .i64 b1,.int .i64 b2,.int .i64 b3,.int .i64 b4,.int .i64 b5,.int .i64 b6,.int .i64 b7] 103)=hh at x0 ⊢;refine zAi [3,4,5,7,8,9,10,11,12,13,14,15,16,17] (fun e h'=>Ext hh h'/\∃i:Nat,i<=8/\e 7= .int .i64 i/\∃aO cO,e 3= .slice aO (opL8 xs i).length cO/\eG hh.size h' 3 aO (opL8 xs i).length cO (nz (opL8 xs i))) (fun e _=>match e 7 with| .int _ q=>8-q.toNat|_=>0) ⟨Ext.refl _,0,by omega,rfl,none,0,rfl,eG.nil _ _ _⟩ ?_;rintro e h1 ⟨x1,i,hi,he,aO,cO,heO,OO⟩;by_cases hi8:i<8
 .have hlt:(i:Int)<8:=by omega
  have meas:8-((i:Int)+1).toNat<8-(i:Int).toNat:=by omega
  have ce:(ints xs)[i]? =some (.int .i64 (xs.getD i 0)):=Cn _ _ (by omega);have hx:(Value.agg #[.int .i64 b0,.int .i64 b1,.int .i64 b2,.int .i64 b3,.int .i64 b4,.int .i64 b5,.int .i64 b6,.int .i64 b7])= .agg (ints xs).toArray:=by rw[h9]
  have nx:=opL8_next xs i;have le:=opL8_le xs i;simp only[he,heO,hlt,idsW_arr,decide_true,Int.toNat_natCast,coreS,Value.cells,Value.oneCell',Nat.reduceAdd,Nat.reduceSub,Nat.reduceMul,Nat.reduceLeDiff,Int.reduceEq,Nat.reduceEqDiff,YtejmkibjpaoahaaGreatDoorG1Fs52];refine index_numT (j:=i) Tryz.underlying103 agg2 inf2 sz2 hx rfl (by omega) ce ?_;by_cases h0:xs.getD i 0=0
  .rw[if_pos h0,List.append_nil]at nx;simp only[he,heO,h0,decide_true,Bool.not_true,coreS,Value.cells,Value.oneCell',Nat.reduceAdd,Nat.reduceSub,Nat.reduceMul,Nat.reduceLeDiff,Int.reduceEq,Nat.reduceEqDiff,YtejmkibjpaoahaaGreatDoorG1Fs52];refine⟨by rw[zBS];omega,Zr (by kernel_rfl) ⟨x1,i+1,by omega,rfl,aO,cO,by rw[nx];rfl,by rw[nx];exact OO⟩ meas⟩
  .rw[if_neg h0]at nx;simp only[he,heO,h0,decide_false,Bool.not_false,coreS,Value.cells,Value.oneCell',Nat.reduceAdd,Nat.reduceSub,Nat.reduceMul,Nat.reduceLeDiff,Int.reduceEq,Nat.reduceEqDiff,YtejmkibjpaoahaaGreatDoorG1Fs52];have OO':=OO.ext ((Ext.refl h1).push (.cells #[.int .i64 (i:Int)] 3));refine app40 (m0:=hh.size) (len:=(opL8 xs i).length) (m:=1) (ys:=[(i:Int)]) rfl rfl OO' (by rw[Rh];have:=x1.size;omega) (intsV_one jD) (by omega) fun a' cap' h5 O5 A5=> ?_
   have ell:(opL8 xs i).length+1=(opL8 xs (i+1)).length:=by rw[nx];simp
   rw[nz_snoc,<-nx,ell]at O5;simp only[he,coreS,Value.cells,Value.oneCell',Nat.reduceAdd,Nat.reduceSub,Nat.reduceMul,Nat.reduceLeDiff,Int.reduceEq,Nat.reduceEqDiff,YtejmkibjpaoahaaGreatDoorG1Fs52];refine⟨by rw[zBS];omega,Zr (by kernel_rfl) ⟨A5.extN OO' (x1.push _) (Nat.le_refl _),i+1,by omega,rfl,a',cap',by rw[<-ell];rfl,O5⟩ meas⟩
 obtain rfl:i=8:=by omega
 simp only[he,heO,show¬(((8:Nat):Int)<8) by omega,decide_false,coreS,Value.cells,Value.oneCell',Nat.reduceAdd,Nat.reduceSub,Nat.reduceMul,Nat.reduceLeDiff,Int.reduceEq,Nat.reduceEqDiff,YtejmkibjpaoahaaGreatDoorG1Fs52];exact⟨⟨aO,cO,rfl,OO.mono x0.size⟩,x0.trans x1⟩
theorem more159 (a b:Option Addr)(n c m d:Nat)(h:Eng.Heap):ak Tryz.prog 168 #[.slice a n c,.slice b m d] h (fun v h'=>v= .bool (decide (m<n))/\h'=h):=by
 (refine Rm Tryz.func168 rfl bod168 ?_;simp only[Tryz.ntmps168,Tryz.results168,coreS,U1,splice,Value.cells,Value.oneCell',Nat.reduceAdd,Nat.reduceSub,Nat.reduceMul,Nat.reduceLeDiff,Int.reduceEq,Nat.reduceEqDiff,Tryz.underlying185])
 congr 1;rw[decide_eq_decide];omega
end
end Go.Proofs.YtejmkibjpaoahaaGreatDoor
end
section
namespace Go.Proofs.YtejmkibjpaoahaaGreatDoor
open Go Go.Proofs Go.Eng Go.Run Tab
set_option maxRecDepth 100000
set_option linter.unusedSimpArgs false
set_option linter.unusedVariables false
set_option linter.defProp false
set_option maxHeartbeats 2000000
set_option linter.defProp false
def YtejmkibjpaoahaaGreatDoorG2Fs167:=(And.intro (And.intro @agg185 @by185) (And.intro @inf185 (And.intro @sz185 @Tryz.underlying244)))
theorem row_slice {h:Eng.Heap}{a:Option Addr}{n c lo hi:Nat}{vs:List Value}(I:Row h a vs)(hl:vs.length=n)(h1:lo<=hi)(h2:hi<=n)(h3:n<=c):Row h (if(c:Int)=(lo:Int)then a else lg a lo) ((vs.drop lo).take (hi-lo)):=by
 split
 .rename_i he;have:hi-lo=0:=by omega
  rw[this];exact .inl (by simp)
 .exact I.sub lo (hi-lo) (by omega)
abbrev Hd:=Option Addr×Nat×Nat
def hdV (t:Hd):Value:= .slice t.1 t.2.1 t.2.2
def hdsV (T:List Hd):List Value:=T.map hdV
theorem hdsV_length (T:List Hd):(hdsV T).length=T.length:=by simp[hdsV]
theorem hdsV_cell {h:Eng.Heap}{a:Option Addr}{T:List Hd}(R:Row h a (hdsV T)){j:Nat}(hj:j<T.length):jL h (lg a j)=some (.slice T[j].1 T[j].2.1 T[j].2.2):=by
 have:=R.cell (j:=j) (by rw[hdsV_length];exact hj);rw[this];simp[hdsV,hdV]
def upH (o x:Hd):Hd:=if o.2.1<x.2.1 then x else o
theorem fold_upH:∀(l:List Hd) (o:Hd),o.2.1<=(l.foldl upH o).2.1/\(∀x∈l,x.2.1<=(l.foldl upH o).2.1)/\(l.foldl upH o=o\/l.foldl upH o∈l)
 |[],o=>⟨Nat.le_refl _,by simp,.inl rfl⟩
 |y::l,o=>by
  obtain⟨h1,h2,h3⟩:=fold_upH l (upH o y);have ho:o.2.1<=(upH o y).2.1/\y.2.1<=(upH o y).2.1:=by unfold upH;split<;>omega
  have hy:upH o y=o\/upH o y=y:=by unfold upH;split<;>simp
  simp only[List.foldl_cons,List.mem_cons];refine⟨by omega,fun x hx=> ?_,?_⟩
  .rcases hx with rfl|hx
   .omega
   .exact h2 x hx
  .rcases h3 with h3|h3
   .rw[h3];rcases hy with hy|hy
    .exact .inl hy
    .exact .inr (.inl hy)
   .exact .inr (.inr h3)
def bstH (T:List Hd):Hd:=(T.drop 1).foldl upH (T.getD 0 (none,0,0))
theorem bstH_ge {T:List Hd}{x:Hd}(hx:x∈T):x.2.1<=(bstH T).2.1:=by
 cases T with
 |nil=>cases hx
 |cons y l=>
  obtain⟨h1,h2,_⟩:=fold_upH l y;show x.2.1<=(l.foldl upH y).2.1;rcases List.mem_cons.1 hx with rfl|hx
  .exact h1
  .exact h2 x hx
theorem bstH_mem {T:List Hd}(h:0<T.length):bstH T∈T:=by
 cases T with
 |nil=>simp at h
 |cons y l=>
  obtain⟨_,_,h3⟩:=fold_upH l y;show l.foldl upH y∈_;rcases h3 with h3|h3
  .rw[h3];simp
  .exact List.mem_cons_of_mem _ h3
theorem best158 (a:Option Addr)(n c:Nat)(T:List Hd)(h:Eng.Heap)(R:Row h a (hdsV T))(hn:n=T.length)(h1:0<n)(hc:n<=c)(hl:n<=1000000):
 ak Tryz.prog 167 #[.slice a n c,.func (.func 168) #[] #[]] h (fun v h'=>v=hdV (bstH T)/\h'=h):=by
 (refine Rm Tryz.func167 rfl bod167 ?_;simp only[Tryz.ntmps167,Tryz.results167,coreS,U1,splice,Value.cells,Value.oneCell',Nat.reduceAdd,Nat.reduceSub,Nat.reduceMul,Nat.reduceLeDiff,Int.reduceEq,Nat.reduceEqDiff,YtejmkibjpaoahaaGreatDoorG2Fs167])
 have c0:=hdsV_cell R (j:=0) (by omega);have hsm:=R.isSome (by rw[hdsV_length];omega);have hsl:=row_slice (lo:=1) (hi:=n) (c:=c) R (by rw[hdsV_length,hn]) (by omega) (Nat.le_refl _) hc;have e1:((n:Int)-1).toNat=n-1:=by omega
 have e2:((c:Int)-1).toNat=c-1:=by omega
 have ht:((hdsV T).drop 1).take (n-1)=hdsV (T.drop 1):=by
  rw[List.take_of_length_le (by rw[List.length_drop,hdsV_length];omega)];simp[hdsV]
 rw[ht]at hsl;obtain⟨sl,hsle⟩:∃sl,sl=(if(c:Int)=((1:Nat):Int)then a else lg a 1):=⟨_,rfl⟩;have hsle2:(if(c:Int)=1 then a else lg a 1)=sl:=by rw[hsle];rfl
 rw[<-hsle]at hsl;have ht0:T.getD 0 (none,0,0)=T[0]:=by rw[List.getD_eq_getElem?_getD,List.getElem?_eq_getElem (by omega)];rfl
 rw[<-ht0]at c0;simp only[c0,e1,e2,hsle2,coreS,Value.cells,Value.oneCell',Nat.reduceAdd,Nat.reduceSub,Nat.reduceMul,Nat.reduceLeDiff,Int.reduceEq,Nat.reduceEqDiff,YtejmkibjpaoahaaGreatDoorG2Fs167];refine⟨⟨by omega,by omega⟩,hsm,by omega,by omega,by omega,by omega,?_⟩;refine zAi [5,7,14,15,16,17,18,19,20,21,22,23] (fun e h'=>h'=h/\∃i:Nat,i<=n-1/\e 14= .int .i64 i/\∃t:Hd,e 5= .slice t.1 t.2.1 t.2.2/\t=((T.drop 1).take i).foldl upH (T.getD 0 (none,0,0))) (fun e _=>match e 14 with| .int _ q=>(n-1)-q.toNat|_=>0) ⟨rfl,0,by omega,rfl,T.getD 0 (none,0,0),rfl,rfl⟩ ?_;rintro e h' ⟨rfl,i,hi,he,t,he5,htT⟩;have hdl:(T.drop 1).length=n-1:=by simp;omega
 by_cases hil:i<(T.drop 1).length
 .have hlt:(i:Int)<((n-1:Nat):Int):=by omega
  have meas:(n-1)-((i:Int)+1).toNat<(n-1)-(i:Int).toNat:=by omega
  have c1:=hdsV_cell hsl hil;have hss:=hsl.isSome (by rw[hdsV_length];omega);obtain⟨u,hu⟩:∃u,u=(T.drop 1)[i]:=⟨_,rfl⟩;rw[<-hu]at c1;have hnx:((T.drop 1).take (i+1)).foldl upH (T.getD 0 (none,0,0))=upH t u:=by
   rw[List.take_add_one,List.getElem?_eq_getElem hil,List.foldl_append,<-htT,<-hu];rfl
  simp only[he,he5,hlt,c1,decide_true,Int.toNat_natCast,coreS,Value.cells,Value.oneCell',Nat.reduceAdd,Nat.reduceSub,Nat.reduceMul,Nat.reduceLeDiff,Int.reduceEq,Nat.reduceEqDiff,YtejmkibjpaoahaaGreatDoorG2Fs167];refine⟨by omega,hss,?_⟩;refine ak.mono (more159 _ _ _ _ _ _ h') ?_;rintro v h2 ⟨rfl,rfl⟩;by_cases hm:t.2.1<u.2.1
  .simp only[hm,he,decide_true,coreS,Value.cells,Value.oneCell',Nat.reduceAdd,Nat.reduceSub,Nat.reduceMul,Nat.reduceLeDiff,Int.reduceEq,Nat.reduceEqDiff,YtejmkibjpaoahaaGreatDoorG2Fs167];exact⟨by rw[zBS];omega,Zr (by kernel_rfl) ⟨rfl,i+1,by omega,rfl,u,rfl,by rw[hnx,upH,if_pos hm]⟩ meas⟩
  .simp only[hm,he,decide_false,coreS,Value.cells,Value.oneCell',Nat.reduceAdd,Nat.reduceSub,Nat.reduceMul,Nat.reduceLeDiff,Int.reduceEq,Nat.reduceEqDiff,YtejmkibjpaoahaaGreatDoorG2Fs167];exact⟨by rw[zBS];omega,Zr (by kernel_rfl) ⟨rfl,i+1,by omega,rfl,t,rfl,by rw[hnx,upH,if_neg hm]⟩ meas⟩
 .obtain rfl:i=n-1:=by omega
  simp only[he,he5,show¬(((n-1:Nat):Int)<((n-1:Nat):Int)) by omega,decide_false,coreS,Value.cells,Value.oneCell',Nat.reduceAdd,Nat.reduceSub,Nat.reduceMul,Nat.reduceLeDiff,Int.reduceEq,Nat.reduceEqDiff,YtejmkibjpaoahaaGreatDoorG2Fs167];rw[List.take_of_length_le (by omega)]at htT;rw[htT]
  first|exact⟨rfl,trivial⟩|exact⟨rfl,rfl⟩|rfl
end Go.Proofs.YtejmkibjpaoahaaGreatDoor
end
section
namespace Go.Proofs.YtejmkibjpaoahaaGreatDoor
open Go Go.Proofs Go.Eng Go.Run Tab
section
variable {K:Value->Eng.Heap->Prop}{h:Eng.Heap}
set_option maxRecDepth 100000
set_option linter.unusedSimpArgs false
set_option linter.unusedVariables false
set_option linter.defProp false
set_option maxHeartbeats 2000000
set_option linter.defProp false
def YtejmkibjpaoahaaGreatDoorG3Fs166:=(And.intro (And.intro @agg185 (And.intro @by185 @inf185)) (And.intro @sz185 (And.intro @Tryz.underlying185 @Tryz.underlying244)))
def YtejmkibjpaoahaaGreatDoorG3Fs237:=(And.intro (And.intro @by184 @inf184) (And.intro @sz184 @Tryz.underlying185))
theorem bltG_cap {vs:List Value}{u:Option TypeDesc}{F:Prop}:lZ .cap vs u h K F=F:=by
 unfold lZ;split<;>first|rfl|(rename_i hh;cases hh)|simp_all
theorem capG {e:Env}{ty t el:TypeId}(hu:Tryz.prog.underlying t=some (.slice el)){x:Operand}{a:Option Addr}{n c:Nat}(hx:ev e x= .slice a n c)(H:K (.int .i64 c) h):aI Tryz.prog (.call ⟨.builtin .cap,#[x],#[t]⟩) ty e h K:=
 aK rfl _ H fun w _=>by simp[execOp,resolve,invoke,builtin,hx,Builtin.cap_,goInt,run_underlying hu]
theorem app163 {er:Env}{ty:TypeId}{m0:Nat}{x y:Operand}{a b:Option Addr}{len cap m c:Nat}{p q:List Nat}(hx:ev er x= .slice a len cap)(hy:ev er y= .slice b m c)(O:iV m0 h 184 1 a len cap (ints (nz p)))(h0h:m0<=h.size)(I:Row h b (ints (nz q)))(hm:m=q.length)(hb:len+m<=1000)(H:∀a' cap' h',iV m0 h' 184 1 a' (len+m) cap' (ints (nz (p++q)))->App h h' a a'->K (.slice a' (len+m) cap') h'):aI Tryz.prog (.call ⟨.builtin .append,#[x,y],#[185,185]⟩) ty er h K:=
 WZ Tryz.underlying185 Tryz.underlying185 inf184 sz184 zero184 (by rfl) hx hy O h0h I (by rw[aR,nz_length];omega) (fun u hu=>by
  obtain⟨x,_,rfl⟩:=List.mem_map.1 hu;rfl) (by omega) (by rw[by184];omega) fun a' cap' h' O' A'=>H a' cap' h' (by
   have e:ints (nz p)++ints (nz q)=ints (nz (p++q)):=by simp[ints,nz]
   rw[<-e];exact O') A'
theorem grow183 (k:Nat)(hk:0<k)(hk2:k<=1000)(h:Eng.Heap):ak Tryz.prog 237 #[.slice none 0 0,.int .i64 k] h (fun v h'=>(∃a cap,v= .slice a 0 cap/\iV h.size h' 184 1 a 0 cap (ints (nz [])))/\Ext h h'):=by
 have h0:¬((k:Nat):Int)<0:=by omega
 have h1:(0:Int)<((k:Nat):Int):=by omega
 have h2:(k:Int)-0=(k:Nat):=by omega
 (refine Rm Tryz.func237 rfl bod237 ?_;simp only[Tryz.ntmps237,Tryz.results237,coreS,U1,splice,Value.cells,Value.oneCell',Nat.reduceAdd,Nat.reduceSub,Nat.reduceMul,Nat.reduceLeDiff,Int.reduceEq,Nat.reduceEqDiff,YtejmkibjpaoahaaGreatDoorG3Fs237])
 simp only[h0,h1,h2,decide_true,decide_false,coreS,Value.cells,Value.oneCell',Nat.reduceAdd,Nat.reduceSub,Nat.reduceMul,Nat.reduceLeDiff,Int.reduceEq,Nat.reduceEqDiff,YtejmkibjpaoahaaGreatDoorG3Fs237];rw[bltG_cap];refine capG Tryz.underlying185 rfl ?_;have h3:(((0:Nat):Int)-((0:Nat):Int))=0:=rfl;have h4:((0:Nat):Int)=0:=rfl;simp only[h3,h2,h1,decide_true,coreS,Value.cells,Value.oneCell',Nat.reduceAdd,Nat.reduceSub,Nat.reduceMul,Nat.reduceLeDiff,Int.reduceEq,Nat.reduceEqDiff,YtejmkibjpaoahaaGreatDoorG3Fs237];refine⟨by rw[zBS];omega,by rw[zBS];omega,?_⟩;rw[bltG_cap];refine capG Tryz.underlying185 rfl ?_;simp only[h3,h4,h2,h1,decide_true,coreS,Value.cells,Value.oneCell',Nat.reduceAdd,Nat.reduceSub,Nat.reduceMul,Nat.reduceLeDiff,Int.reduceEq,Nat.reduceEqDiff,YtejmkibjpaoahaaGreatDoorG3Fs237];refine⟨by omega,by omega,by omega,by omega,?_⟩;refine Un (h0:=h.size) (s:=1) (len:=0) (cap:=0) (k:=k) (olds:=[]) Tryz.underlying185 Tryz.underlying3 inf184 sz184 zero184 rfl (by omega) rfl rfl (.inl rfl) rfl hk (by omega) (by omega) (by rw[by184];omega) (Nat.le_refl _) fun c2 h2' zs hz O x=> ?_
 have hcap:=O.cap;simp only[h3,h4,coreS,Value.cells,Value.oneCell',Nat.reduceAdd,Nat.reduceSub,Nat.reduceMul,Nat.reduceLeDiff,Int.reduceEq,Nat.reduceEqDiff,YtejmkibjpaoahaaGreatDoorG3Fs237];refine⟨by omega,by omega,by omega,by omega,⟨some ⟨h.size,0,none⟩,c2,by simp,?_⟩,x⟩;rcases O.ok with⟨e,_⟩|⟨g,cur,e,o1,o2,o3,o4,o5⟩
 .cases e
 .exact⟨by simp[nz,ints],.inr ⟨g,cur,e,o1,o2,o3,by omega,by simp[nz,ints]⟩⟩
theorem concat157 (b:Option Addr)(c:Nat)(a1:Option Addr)(n1 c1:Nat)(p:List Nat)(a2:Option Addr)(n2 c2:Nat)(q:List Nat)(h:Eng.Heap)(R:Row h b (hdsV [(a1,n1,c1),(a2,n2,c2)]))(R1:Row h a1 (ints (nz p)))(hn1:n1=p.length)(R2:Row h a2 (ints (nz q)))(hn2:n2=q.length)(h1:0<n1)(hl:n1+n2<=900):
 ak Tryz.prog 166 #[.slice b 2 c] h (fun v h'=>(∃a cap,v= .slice a (n1+n2) cap/\iV 0 h' 184 1 a (n1+n2) cap (ints (nz (p++q))))/\Ext h h'):=by
 have hc0:=hdsV_cell R (j:=0) (by simp);have hc1:=hdsV_cell R (j:=1) (by simp);have hsm:=R.isSome (by simp[hdsV]);simp only[List.getElem_cons_zero,List.getElem_cons_succ]at hc0 hc1
 (refine Rm Tryz.func166 rfl bod166 ?_;simp only[Tryz.ntmps166,Tryz.results166,coreS,U1,splice,Value.cells,Value.oneCell',Nat.reduceAdd,Nat.reduceSub,Nat.reduceMul,Nat.reduceLeDiff,Int.reduceEq,Nat.reduceEqDiff,YtejmkibjpaoahaaGreatDoorG3Fs166])
 refine zAi [3,5,11,12,13,14,15,16,17,18,19,20,21,22] (fun e h'=>h'=h/\((e 11= .int .i64 0/\e 3= .int .i64 0)\/(e 11= .int .i64 1/\e 3= .int .i64 n1)\/(e 11= .int .i64 2/\e 3= .int .i64 ((n1+n2:Nat):Int)))) (fun e _=>match e 11 with| .int _ q=>2-q.toNat|_=>0) ⟨rfl,.inl ⟨rfl,rfl⟩⟩ ?_;rintro e h' ⟨rfl,⟨he,he3⟩|⟨he,he3⟩|⟨he,he3⟩⟩
 .have t0:(0:Int)<((2:Nat):Int):=by decide
  have t1:¬(0:Int)+(n1:Nat)<0:=by omega
  have t2:((0:Int)).toNat=0:=rfl;simp only[he,he3,t0,t1,t2,hc0,decide_true,decide_false,coreS,Value.cells,Value.oneCell',Nat.reduceAdd,Nat.reduceSub,Nat.reduceMul,Nat.reduceLeDiff,Int.reduceEq,Nat.reduceEqDiff,YtejmkibjpaoahaaGreatDoorG3Fs166];refine⟨by omega,hsm,by rw[zBS];omega,by rw[zBS];omega,Zr (by kernel_rfl) ⟨rfl,.inr (.inl ⟨rfl,?_⟩)⟩ ?_⟩
  .show Value.int .i64 (0+(n1:Int))=_;rw[Int.zero_add]
  .show 2-(0+1:Int).toNat<2-(0:Int).toNat;decide
 .have t0:(1:Int)<((2:Nat):Int):=by decide
  have t1:¬((n1:Nat):Int)+(n2:Nat)<0:=by omega
  have t2:((1:Int)).toNat=1:=rfl;simp only[he,he3,t0,t1,t2,hc1,decide_true,decide_false,coreS,Value.cells,Value.oneCell',Nat.reduceAdd,Nat.reduceSub,Nat.reduceMul,Nat.reduceLeDiff,Int.reduceEq,Nat.reduceEqDiff,YtejmkibjpaoahaaGreatDoorG3Fs166];refine⟨by omega,hsm,by rw[zBS];omega,by rw[zBS];omega,Zr (by kernel_rfl) ⟨rfl,.inr (.inr ⟨rfl,?_⟩)⟩ ?_⟩
  .show Value.int .i64 ((n1:Int)+(n2:Int))=_;congr 1
  .show 2-(1+1:Int).toNat<2-(1:Int).toNat;decide
 have t0:¬(2:Int)<((2:Nat):Int):=by decide
 simp only[he,he3,t0,decide_false,coreS,Value.cells,Value.oneCell',Nat.reduceAdd,Nat.reduceSub,Nat.reduceMul,Nat.reduceLeDiff,Int.reduceEq,Nat.reduceEqDiff,YtejmkibjpaoahaaGreatDoorG3Fs166];refine ak.mono (grow183 (n1+n2) (by omega) (by omega) h') ?_;rintro v h1' ⟨⟨a3,c3,rfl,O3⟩,x3⟩;have s3:=x3.size;simp only[coreS,Value.cells,Value.oneCell',Nat.reduceAdd,Nat.reduceSub,Nat.reduceMul,Nat.reduceLeDiff,Int.reduceEq,Nat.reduceEqDiff,YtejmkibjpaoahaaGreatDoorG3Fs166];refine zAi [6,8,27,28,29,30,31,32,33,34] (fun e h''=>Ext h' h''/\((e 27= .int .i64 0/\∃a4 c4,e 6= .slice a4 0 c4/\iV h'.size h'' 184 1 a4 0 c4 (ints (nz [])))\/(e 27= .int .i64 1/\∃a4 c4,e 6= .slice a4 n1 c4/\iV h'.size h'' 184 1 a4 n1 c4 (ints (nz p)))\/(e 27= .int .i64 2/\∃a4 c4,e 6= .slice a4 (n1+n2) c4/\iV h'.size h'' 184 1 a4 (n1+n2) c4 (ints (nz (p++q)))))) (fun e _=>match e 27 with| .int _ q=>2-q.toNat|_=>0) ⟨x3,.inl ⟨rfl,a3,c3,rfl,O3⟩⟩ ?_;rintro e4 h4 ⟨x4,⟨he4,a4,c4,he6,O4⟩|⟨he4,a4,c4,he6,O4⟩|⟨he4,a4,c4,he6,O4⟩⟩
 .have u0:(0:Int)<((2:Nat):Int):=by decide
  have u2:((0:Int)).toNat=0:=rfl;have d0:=hdsV_cell (R.ext x4) (j:=0) (by simp);simp only[List.getElem_cons_zero]at d0;simp only[he4,he6,u0,u2,d0,decide_true,coreS,Value.cells,Value.oneCell',Nat.reduceAdd,Nat.reduceSub,Nat.reduceMul,Nat.reduceLeDiff,Int.reduceEq,Nat.reduceEqDiff,YtejmkibjpaoahaaGreatDoorG3Fs166];refine⟨by omega,hsm,?_⟩;refine app163 (m0:=h'.size) (len:=0) (p:=[]) rfl rfl O4 x4.size (R1.ext x4) hn1 (by omega) fun a5 c5 h5 O5 A5=> ?_
  rw[Nat.zero_add,List.nil_append]at O5;rw[Nat.zero_add];simp only[he4,coreS,Value.cells,Value.oneCell',Nat.reduceAdd,Nat.reduceSub,Nat.reduceMul,Nat.reduceLeDiff,Int.reduceEq,Nat.reduceEqDiff,YtejmkibjpaoahaaGreatDoorG3Fs166];refine⟨by rw[zBS];omega,Zr (by kernel_rfl) ⟨A5.extV O4 x4 (Nat.le_refl _),.inr (.inl ⟨rfl,a5,c5,rfl,O5⟩)⟩ ?_⟩;show 2-(0+1:Int).toNat<2-(0:Int).toNat;decide
 .have u0:(1:Int)<((2:Nat):Int):=by decide
  have u2:((1:Int)).toNat=1:=rfl;have d1:=hdsV_cell (R.ext x4) (j:=1) (by simp);simp only[List.getElem_cons_zero,List.getElem_cons_succ]at d1;simp only[he4,he6,u0,u2,d1,decide_true,coreS,Value.cells,Value.oneCell',Nat.reduceAdd,Nat.reduceSub,Nat.reduceMul,Nat.reduceLeDiff,Int.reduceEq,Nat.reduceEqDiff,YtejmkibjpaoahaaGreatDoorG3Fs166];refine⟨by omega,hsm,?_⟩;refine app163 (m0:=h'.size) (len:=n1) (p:=p) rfl rfl O4 x4.size (R2.ext x4) hn2 (by omega) fun a5 c5 h5 O5 A5=> ?_
  simp only[he4,coreS,Value.cells,Value.oneCell',Nat.reduceAdd,Nat.reduceSub,Nat.reduceMul,Nat.reduceLeDiff,Int.reduceEq,Nat.reduceEqDiff,YtejmkibjpaoahaaGreatDoorG3Fs166];refine⟨by rw[zBS];omega,Zr (by kernel_rfl) ⟨A5.extV O4 x4 (Nat.le_refl _),.inr (.inr ⟨rfl,a5,c5,rfl,O5⟩)⟩ ?_⟩;show 2-(1+1:Int).toNat<2-(1:Int).toNat;decide
 .have u0:¬(2:Int)<((2:Nat):Int):=by decide
  simp only[he4,he6,u0,decide_false,coreS,Value.cells,Value.oneCell',Nat.reduceAdd,Nat.reduceSub,Nat.reduceMul,Nat.reduceLeDiff,Int.reduceEq,Nat.reduceEqDiff,YtejmkibjpaoahaaGreatDoorG3Fs166];exact⟨⟨a4,c4,rfl,O4.mono (Nat.zero_le _)⟩,x4⟩
end
end Go.Proofs.YtejmkibjpaoahaaGreatDoor
end
section
set_option linter.unusedVariables false
set_option linter.unusedSimpArgs false
namespace Go.Eng
open Go
section
variable {b c:Nat}{h h' h'':Heap}
structure Chg (h h':Heap)(b:Nat):Prop where
 size:h.size<=h'.size
 old:∀c,c<h.size->c≠b->h'[c]? =h[c]?
theorem Chg.refl (h:Heap)(b:Nat):Chg h h b:=⟨Nat.le_refl _,fun _ _ _=>rfl⟩
theorem Chg.Sg (x:Ext h h')(b:Nat):Chg h h' b:=⟨x.size,fun c hc _=>x.old c hc⟩
theorem Chg.trans (x:Chg h h' b)(y:Chg h' h'' b):Chg h h'' b:=⟨Nat.le_trans x.size y.size,fun c hc hne=>(y.old c (Nat.lt_of_lt_of_le hc x.size) hne).trans (x.old c hc hne)⟩
theorem Chg.get {o:Obj}(x:Chg h h' b)(hc:h[c]? =some o)(hne:c≠b):h'[c]? =some o:=(x.old c (bA hc) hne).trans hc
theorem Chg.upd (x:Chg h h' b)(u:Upd h' h'' b):Chg h h'' b:=⟨by rw[u.size];exact x.size,fun c hc hne=>(u.old c hne).trans (x.old c hc hne)⟩
theorem Chg.zBk (x:Chg h h' b)(u:Upd h' h'' c)(hc:h.size<=c):Chg h h'' b:=⟨by rw[u.size];exact x.size,fun i hi hne=>(u.old i (by omega)).trans (x.old i hi hne)⟩
theorem Chg.ext (x:Chg h h' b)(y:Ext h' h''):Chg h h'' b:=x.trans (.Sg y b)
theorem Chg.push (x:Chg h h' b)(o:Obj):Chg h (h'.push o) b:=x.ext ((Ext.refl h').push o)
theorem Chg.fresh {h0:Heap}(x:Ext h0 h)(c:Chg h h' b)(hb:h0.size<=b):Ext h0 h':=⟨Nat.le_trans x.size c.size,fun i hi=>(c.old i (Nat.lt_of_lt_of_le hi x.size) (by omega)).trans (x.old i hi)⟩
theorem Row.chg {a:Option Addr}{cs:List Value}{ents:Array MapEntry}(H:Row h a cs)(hb:h[b]? =some (.map ents c))(x:Chg h h' b):Row h' a cs:=by
 rcases H with H|⟨g,off,cur,ct,fr,h1,h2,h3,h4⟩
 .exact .inl H
 .refine .inr ⟨g,off,cur,ct,fr,h1,x.get h2 ?_,h3,h4⟩;rintro rfl;rw[hb]at h2;cases h2
theorem eu.chg {n:Nat}{a:Option Addr}{xs:List Int}{ents:Array MapEntry}(H:eu h a n xs)(hb:h[b]? =some (.map ents c))(x:Chg h h' b):eu h' a n xs:=⟨H.len,H.row.chg hb x⟩
end
section maps
variable {α:Type}[DecidableEq α]
theorem UD {a a':α}{v:Value}{c:Nat}:∀{es:List (α×Value×Nat)},fZ a' (fF a v c es)=if a'=a then some v else fZ a' es
 |[]=>by simp only[fF,fZ]
 |x::es=>by
  have ih:=UD (a:=a) (a':=a') (v:=v) (c:=c) (es:=es);by_cases hx:a=x.1
  .simp only[fF,hx,if_true,fZ];by_cases h:a'=x.1<;>simp[h]
  .simp only[fF,hx,if_false,fZ,ih];by_cases h:a'=x.1
   .have:¬a'=a:=fun e=>hx (by rw[<-e,h])
    simp[h,this];intro e;exact absurd e.symm hx
   .simp[h]
theorem Hw {a:α}{v:Value}{c:Nat}:∀{es:List (α×Value×Nat)},(fF a v c es).map (·.1)=if a∈es.map (·.1)then es.map (·.1)else es.map (·.1)++[a]
 |[]=>by simp[fF]
 |x::es=>by
  have ih:=Hw (a:=a) (v:=v) (c:=c) (es:=es);by_cases hx:a=x.1
  .simp[fF,hx]
  .simp only[fF,hx,if_false,List.map_cons,ih,List.mem_cons,false_or];split<;>simp
theorem Zg {a:α}{v:Value}{c:Nat}{es:List (α×Value×Nat)}(h:(es.map (·.1)).Nodup):((fF a v c es).map (·.1)).Nodup:=by
 rw[Hw];split
 .exact h
 .rename_i hn;rw[List.nodup_append];refine⟨h,by simp,?_⟩;intro x hx y hy;simp at hy;subst hy;exact fun e=>hn (by rw[<-e];exact hx)
theorem HV {a:α}:∀{es:List (α×Value×Nat)},(es.map (·.1)).Nodup->∀{x},x∈es->x.1=a->fZ a es=some x.2.1
 |[],_,x,h,_=>by cases h
 |y::es,hn,x,h,he=>by
  rw[List.map_cons,List.nodup_cons]at hn;rcases List.mem_cons.1 h with rfl|h
  .simp[fZ,he]
  .have:¬a=y.1:=fun e=>hn.1 (by rw[<-e,<-he];exact List.mem_map.2 ⟨x,h,rfl⟩)
   simp only[fZ,this,if_false];exact HV hn.2 h he
theorem Tt {a:α}{v:Value}:∀{es:List (α×Value×Nat)},fZ a es=some v->∃c,(a,v,c)∈es
 |[],h=>by cases h
 |x::es,h=>by
  simp only[fZ]at h;split at h
  .rename_i hx;cases h;exact⟨x.2.2,by rw[hx];simp⟩
  .obtain⟨c,hc⟩:=Tt h;exact⟨c,by simp[hc]⟩
end maps
def XP (r b:Nat)(h:Heap):Nat:=match h[r]?,h[b]? with
 |some (.mapIter _ _ seen _),some (.map es _)=>(es.toList.filter fun e=> !seen.contains e.born).length
 |_,_=>0
theorem zAW {α:Type}{kv:α->Value}{r b since c0 c:Nat}{seen:Array Nat}{h:Heap}{es:List (α×Value×Nat)}(M:jU kv h b es c)(hr:h[r]? =some (.mapIter (some b) since seen c0)):XP r b h=(es.filter fun x=> !seen.contains x.2.2).length:=by
 rw[XP,hr,M.obj];simp only[List.toList_toArray,List.filter_map,List.length_map];rfl
theorem filter_lt {α:Type}{p q:α->Bool}:∀{l:List α},(∀x∈l,q x=true->p x=true)->∀{e:α},e∈l->p e=true->q e=false->(l.filter q).length<(l.filter p).length
 |[],_,e,h,_,_=>by cases h
 |y::l,hs,e,h,hp,hq=>by
  have hle:(l.filter q).length<=(l.filter p).length:=by
   have:l.filter q=(l.filter p).filter q:=by
    rw[List.filter_filter];apply List.filter_congr;intro x hx;by_cases hqx:q x=true
    .simp[hqx,hs x (by simp[hx]) hqx]
    .simp[hqx]
   rw[this];exact List.length_filter_le _ _
  rcases List.mem_cons.1 h with rfl|h
  .simp only[List.filter_cons,hp,hq,if_true,List.length_cons];simp;omega
  .have ih:=filter_lt (p:=p) (q:=q) (fun x hx=>hs x (by simp[hx])) h hp hq;simp only[List.filter_cons];by_cases hqy:q y=true
   .simp[hqy,hs y (by simp) hqy,ih]
   .by_cases hpy:p y=true
    .simp[hqy,hpy];omega
    .simp[hqy,hpy,ih]
theorem zBU {α:Type}{es:List (α×Value×Nat)}(hb:(es.map (·.2.2)).Pairwise (·<·)){x y:α×Value×Nat}(hx:x∈es)(hy:y∈es)(he:x.2.2=y.2.2):x=y:=by
 induction es with
 |nil=>cases hx
 |cons z es ih=>
  rw[List.map_cons,List.pairwise_cons]at hb;rcases List.mem_cons.1 hx with h1|h1
  .rcases List.mem_cons.1 hy with h2|h2
   .rw[h1,h2]
   .have:=hb.1 _ (List.mem_map.2 ⟨y,h2,rfl⟩);rw[<-h1]at this;omega
  .rcases List.mem_cons.1 hy with h2|h2
   .have:=hb.1 _ (List.mem_map.2 ⟨x,h1,rfl⟩);rw[<-h2]at this;omega
   .exact ih hb.2 h1 h2
end Go.Eng
end
section
set_option linter.unusedVariables false
set_option linter.unusedSimpArgs false
namespace Go.Eng
open Go
section yields
variable {P:Program}{l:Option Nat}{h:Heap}{e:Env}{d:List Deferred}{k:aj}
section
variable {Br:Code->Heap->Prop}{K:Value->Heap->Prop}{a b c:Code}{caps:Array Value}{f:Operand}{first:Array Value}{lo:Nat}{o:Obj}{ps:Array Tmp}{r:Nat}{rec:Loop}{rs:List ResultVar}{v:Value}{vs:List Value}{w:World}
def Aw (P:Program)(v:Value)(vs:List Value)(h:Heap)(K:Value->Heap->Prop):Prop:=
 ∀(er:Env) (f:Operand) (xs:Array Operand) (ats:Array TypeId) (ty:TypeId),ev er f=v->(xs.map (ev er)).toList=vs->aI P (.call ⟨.value f,xs,ats⟩) ty er h K
theorem Aw.run {K':Value->Heap->Prop}(H:Aw P v vs h K){er:Env}{xs:Array Operand}{ats:Array TypeId}{ty:TypeId}(hf:ev er f=v)(hx:(xs.map (ev er)).toList=vs)(hk:∀v h,K v h->K' v h):aI P (.call ⟨.value f,xs,ats⟩) ty er h K':=bH hk (H er f xs ats ty hf hx)
theorem Xg {args:Array Value}{F:Prop}:qB P (.func (.yield lo) first caps) args h K F=F:=by unfold qB;rfl
def binds:List Tmp->List Value->Env->Env
 |p::ps,v::vs,e=>binds ps vs (e.set p v)
 |_,_,e=>e
theorem YV {p:Tmp}{ps:List Tmp}{e:Env}:binds (p::ps) (v::vs) e=binds ps vs (e.set p v):=eqi rfl
theorem Zi {e:Env}:binds [] vs e=e:=by simp[binds]
def mkD (r:Nat):Deferred:={target:= .collected r,args:= #[]}
theorem iH {b:Frame}{a:Act}{k:List Item}{cs:List Frame}:Go.step P (lone (b.atR a (.code (.scope c)::k)) cs w)= .next (lone (b.atR a (.code c:: .inScope c::k)) cs w):=
 step_lone_go (by simp[stepG,stepG.exec,Frame.atR])
theorem Ao {b:Frame}{a:Act}{k:List Item}{cs:List Frame}:Go.step P (lone (b.atR a (.inScope c::k)) cs w)= .next (lone (b.atR a k) cs w):=
 step_lone_go (by simp[stepG,stepG.exec,Frame.atR])
theorem IU {F:Fence}{n:Nat}{Q:Exit->Act->World->Prop}{a:Act}(hc:c.wpIn F n P (fun x a w=>(∀i,x≠.goto i)/\Q x a w) a w):(Code.scope c).wpIn F n P Q a w:=by
 intro b k cs hro hb hr;have h0:(lone (b.atR a (.code (.scope c)::k)) cs w).fenced P F:=fenced_calm hb hr rfl;obtain⟨e,a₁,w₁,hq,harr⟩:=hc b (.inScope c::k) cs hro hb hr;cases e with
 |normal=>exact⟨.normal,a₁,w₁,hq.2,.head h0 iH (StepsIn.trans harr (.one (fenced_calm hb hr rfl) Ao))⟩
 |exit id=>
  have hx:exitTo id (.inScope c::k)=exitTo id k:=by simp[exitTo]
  exact⟨.exit id,a₁,w₁,hq.2,fun k' hk=> .head h0 iH (harr.1 k' (by rw[hx];exact hk)),
   fun hr' hk=>let⟨k₁,h1,h2⟩:=harr.2 hr' (by rw[hx];exact hk);⟨k₁,h1,.head h0 iH h2⟩⟩
 |goto l=>exact absurd rfl (hq.1 l)
 |ret=>exact⟨_,a₁,w₁,hq.2,.of_steps (.one h0 iH) harr⟩
 |panic ch=>exact⟨_,a₁,w₁,hq.2,.of_steps (.one h0 iH) harr⟩
 |outgrown=>exact⟨_,a₁,w₁,hq.2,.of_steps (.one h0 iH) harr⟩
theorem Loop.back {R:Loop}(h1:R.state= .ready)(h2:R.pending=none):({({R with state:= .busy}:Loop)with state:= .ready,pending:=none}:Loop)=R:=by
 cases R;simp_all
def BA (k:aj):aj:=fun x e d h=>(∀i,x≠.goto i)/\k x e d h
theorem UE (H:exec l P c (BA k) e d h):WP l P (.scope c) k e d h:=by
 have hb:=dI _ _ _ _ _ H;unfold WP at *;intro w hw;refine IU (wpIn_mono (hb w hw) ?_);rintro x a' w' ⟨⟨c1,c2⟩,hr⟩;exact⟨c1,c2,hr⟩
theorem YU (H:exec l P c (BA k) e d h):exec l P (.scope c) k e d h:=by
 unfold exec;exact UE H
theorem Uo:BA k .normal e d h=k .normal e d h:=eqi (propext ⟨fun H=>H.2,fun H=>⟨fun _ hi=>(by cases hi),H⟩⟩)
theorem YA:BA k .ret e d h=k .ret e d h:=eqi (propext ⟨fun H=>H.2,fun H=>⟨fun _ hi=>(by cases hi),H⟩⟩)
theorem XA {i:Nat}:BA k (.exit i) e d h=k (.exit i) e d h:=eqi (propext ⟨fun H=>H.2,fun H=>⟨fun _ hi=>(by cases hi),H⟩⟩)
theorem Upd.set {b:Nat}:Upd h (h.setIfInBounds b o) b:=⟨by simp,fun b' hb=>Array.getElem?_setIfInBounds_ne (Ne.symm hb)⟩
end
end yields
end Go.Eng
end
section
namespace Go.Proofs.YtejmkibjpaoahaaGreatDoor
open Go Go.Proofs Go.Eng Go.Run Tab
section
variable {a:Option Addr}{c cap:Nat}{h h':Eng.Heap}{len m s:Nat}{z:Nat->Prop}
set_option maxRecDepth 100000
set_option linter.unusedSimpArgs false
set_option linter.unusedVariables false
set_option linter.defProp false
set_option maxHeartbeats 4000000
set_option linter.defProp false
def YtejmkibjpaoahaaGreatDoorG4Fs110:=(And.intro (And.intro (And.intro (And.intro @agg184 @agg3) (And.intro @by184 @by185)) (And.intro (And.intro @fo184_0 @fps184_0) (And.intro @inf184 @inf185))) (And.intro (And.intro (And.intro @inf3 @okf184) (And.intro @sz184 @sz185)) (And.intro (And.intro @sz3 @zero184) (And.intro @zero185 (And.intro @Tryz.underlying185 @Tryz.underlying244)))))
theorem gd_noneG {P:Program}{s:Tmp}{w:Bool}{op:Op}{ty:TypeId}{all rest:List Oper}{k:aj}{dst:Option Tmp}{e:Env}{d:List Deferred}:gd P undef s w op ty all rest k dst e d h=dN P all rest k (aU e dst undef) d h:=Tc
theorem cQ_sameG {P:Program}{f:FuncId}{args:Array Value}{K:Value->Eng.Heap->Prop}(r:Value)(c:ak P f args h (fun v' h''=>v'=r/\h''=h))(H:K r h):cQ P EqH f args h K:=by
 unfold cQ;refine⟨r,fun h' e=> ?_,H⟩;have e:h'=h:=e;subst e;exact c
def kvG (s:Nat):Value:= .agg #[.int .i64 (s:Nat)]
theorem keysG:Keys Tryz.prog 184 kvG:=by
 refine Keys.flat (ki:=(Pt.pr.ty 184).getD ⟨0,0,.any,.other,[]⟩) (kf:=fun p=> .agg [.int .i64 (p:Nat)]) (by rw[Tryz.underlying184]) (Pt.ok.tf (by kernel_rfl)) (fun p=> ?_) (fun p q=> ?_)
 .simp only[VR];exact⟨_,rfl,by simpa[Eng.ints]using FP (ι:=fun _=>none) [(p:Int)]⟩
 .have hb:=EP [(p:Int)] [(q:Int)] rfl;have hd:decide ([(p:Int)]=[(q:Int)])=decide (p=q):=by
   rw[decide_eq_decide];simp;omega
  rw[hd]at hb;exact hb
theorem own_chg {el:TypeId}{b:Nat}{vs:List Value}{ents:Array MapEntry}(O:iV m h el s a len cap vs)(hb:h[b]? =some (.map ents c))(x:Chg h h' b):iV m h' el s a len cap vs:=
 O.keep fun p hp=>x.old _ (O.lt hp).1 fun e=>by
  rcases O.ok with⟨h1,_⟩|⟨g,cur,h1,h2,h3,_⟩
  .rw[h1]at hp;cases hp
  .rw[h1]at hp;cases hp;have e:g=b:=e;rw[e,hb]at h3;cases h3
theorem own_beside {m2:Nat}{el el2:TypeId}{s2:Nat}{x x':Option Addr}{len2 cap2:Nat}{vs ws:List Value}(O:iV m h el s a len cap vs)(A:App h h' x x')(P:iV m2 h el2 s2 x len2 cap2 ws)(hne:el≠el2):iV m h' el s a len cap vs:=
 O.keep fun p hp=>A.old _ (O.lt hp).1 fun q hq e=>by
  rcases O.ok with⟨h1,_⟩|⟨g,cur,h1,h2,h3,_⟩
  .rw[h1]at hp;cases hp
  rcases P.ok with⟨k1,_⟩|⟨g',cur',k1,k2,k3,_⟩
  .rw[k1]at hq;cases hq
  rw[h1]at hp;rw[k1]at hq;cases hp;cases hq;have e:g'=g:=e;rw[e,h3]at k3;cases k3;exact hne rfl
theorem gr_le {k:Nat}(h:LS.Gr z s k):k<=s:=by
 induction h with
 |nil=>exact Nat.le_refl _
 |cons p r k hz hp hd hr ih=>rw[LS.or_add p r hd];omega
theorem pt_le {ps:List Nat}(h:LS.Pt z s ps):ps.length<=s:=gr_le h.gr
theorem app189 {er:Env}{ty:TypeId}{m0:Nat}{x y:Operand}{b:Option Addr}{T U:List Hd}{K:Value->Eng.Heap->Prop}(hx:ev er x= .slice a len cap)(hy:ev er y= .slice b m c)(O:iV m0 h 185 1 a len cap (hdsV T))(h0h:m0<=h.size)(I:Row h b (hdsV U))(hm:m=U.length)(hb:len+m<=1000)(H:∀a' cap' h',iV m0 h' 185 1 a' (len+m) cap' (hdsV (T++U))->App h h' a a'->K (.slice a' (len+m) cap') h'):aI Tryz.prog (.call ⟨.builtin .append,#[x,y],#[244,244]⟩) ty er h K:=
 WZ Tryz.underlying244 Tryz.underlying244 inf185 sz185 zero185 (by rfl) hx hy O h0h I (by rw[hdsV_length];omega) (fun u hu=>by
  obtain⟨x,_,rfl⟩:=List.mem_map.1 hu;rfl) (by omega) (by rw[by185];omega) fun a' cap' h' O' A'=>H a' cap' h' (by
   have e:hdsV T++hdsV U=hdsV (T++U):=by simp[hdsV]
   rw[<-e];exact O') A'
structure Fnd (z:Nat->Prop)(h:Eng.Heap)(fb:Nat)(fs:List (Nat×Value×Nat))(fc:Nat):Prop where
 map:jU kvG h fb fs fc
 val:∀s v,fZ s fs=some v->∃a n c ps,v= .slice a n c/\n=ps.length/\iV 0 h 184 1 a n c (ints (nz ps))/\LS.Pt z s ps/\LS.Most z s n
theorem Fnd.ext {fb:Nat}{fs:List (Nat×Value×Nat)}{fc:Nat}(F:Fnd z h fb fs fc)(x:Ext h h'):Fnd z h' fb fs fc:=
 ⟨F.map.ext x,fun s v hv=>by
  obtain⟨a,n,c,ps,h1,h2,h3,h4,h5⟩:=F.val s v hv;exact⟨a,n,c,ps,h1,h2,h3.ext x,h4,h5⟩⟩
theorem Fnd.appG {fb:Nat}{fs:List (Nat×Value×Nat)}{fc m0:Nat}{x x':Option Addr}{ws:List Value}(F:Fnd z h fb fs fc)(A:App h h' x x')(P:iV m0 h 185 1 x len cap ws)(hm:fb<m0):Fnd z h' fb fs fc:=
 ⟨F.map.keep (A.old fb (bA F.map.obj) fun p hp=>by have:=(P.lt hp).2;omega),fun s v hv=>by
  obtain⟨a,n,c,ps,h1,h2,h3,h4,h5⟩:=F.val s v hv;exact⟨a,n,c,ps,h1,h2,own_beside h3 A P (by decide),h4,h5⟩⟩
def Trd (z:Nat->Prop)(all:Nat)(h:Eng.Heap)(u:Hd):Prop:=u=(none,0,0)\/∃ps:List Nat,u.2.1=ps.length/\iV 0 h 184 1 u.1 u.2.1 u.2.2 (ints (nz ps))/\LS.Pt z all ps
theorem Trd.chg {all:Nat}{u:Hd}{b:Nat}{ents:Array MapEntry}(T:Trd z all h u)(hb:h[b]? =some (.map ents c))(x:Chg h h' b):Trd z all h' u:=by
 rcases T with h1|⟨ps,h1,h2,h3⟩
 .exact .inl h1
 .exact .inr ⟨ps,h1,own_chg h2 hb x,h3⟩
theorem Trd.ext {all:Nat}{u:Hd}(T:Trd z all h u)(x:Ext h h'):Trd z all h' u:=by
 rcases T with h1|⟨ps,h1,h2,h3⟩
 .exact .inl h1
 .exact .inr ⟨ps,h1,h2.ext x,h3⟩
def DivP (z:Nat->Prop)(all fb:Nat)(h:Eng.Heap)(v:Value)(h':Eng.Heap):Prop:=(∃a n c ps,v= .slice a n c/\n=ps.length/\iV 0 h' 184 1 a n c (ints (nz ps))/\LS.Pt z all ps/\LS.Most z all n)/\Chg h h' fb/\∃fs fc,Fnd z h' fb fs fc
theorem divide127 (l:Nat->Int)(A O eb fb ce:Nat)(es:List (Nat×Value×Nat))(hO:O<256)(hne:eb≠fb)(hE:∀s,s≠0->s&&&O=s->((fZ s es).isSome=true<->LS.zero l A s)):
 ∀(all:Nat) (fs:List (Nat×Value×Nat)) (fc:Nat) (h:Eng.Heap),all&&&O=all->LS.zero l A all->jU kvG h eb es ce->Fnd (LS.zero l A) h fb fs fc->
 ak Tryz.prog 110 #[.agg #[.int .i64 all],.map (some eb),.map (some fb)] h (DivP (LS.zero l A) all fb h):=fun all=>by
 induction all using Nat.strongRecOn with
 |ind all ih=>
  intro fs fc h hall hz ME F;have hlt:all<256:=by
   have:all&&&O<=O:=Nat.and_le_right;omega
  (refine Rm Tryz.func110 rfl bod110 ?_;simp only[Tryz.ntmps110,Tryz.results110,coreS,U1,splice,Value.cells,Value.oneCell',Nat.reduceAdd,Nat.reduceSub,Nat.reduceMul,Nat.reduceLeDiff,Int.reduceEq,Nat.reduceEqDiff,YtejmkibjpaoahaaGreatDoorG4Fs110])
  refine YU ?_;have x0:Ext h (h.push (.cells #[.int .i64 all] 184)):=(Ext.refl h).push _;have q0:=jD (h:=h) (o:= .cells #[.int .i64 (all:Nat)] 184);generalize h.push (.cells #[.int .i64 (all:Nat)] 184)=hh at x0 q0 ⊢;by_cases h0:(all:Int)=0
  .have h0':all=0:=by omega
   simp only[h0,q0,decide_true,coreS,Value.cells,Value.oneCell',Nat.reduceAdd,Nat.reduceSub,Nat.reduceMul,Nat.reduceLeDiff,Int.reduceEq,Nat.reduceEqDiff,Uo,YA,XA,Xg,YV,Zi,YtejmkibjpaoahaaGreatDoorG4Fs110];subst h0';exact⟨⟨none,0,0,[],rfl,rfl,iV.nil _ _ _ _,rfl,LS.most_zero _⟩,Chg.Sg x0 _,fs,fc,F.ext x0⟩
  have h0':all≠0:=by omega
  have F1:=F.ext x0;have M1:=ME.ext x0;simp only[h0,q0,decide_false,coreS,Value.cells,Value.oneCell',Nat.reduceAdd,Nat.reduceSub,Nat.reduceMul,Nat.reduceLeDiff,Int.reduceEq,Nat.reduceEqDiff,Uo,YA,XA,Xg,YV,Zi,YtejmkibjpaoahaaGreatDoorG4Fs110];refine zAU Tryz.underlying187 zero185 keysG F1.map (a:=all) (by rfl) (by rfl) ?_;cases hfa:fZ all fs with
  |some v=>
   obtain⟨a,n,c,ps,rfl,hn,hr,hp,hm⟩:=F1.val all v hfa;simp only[Option.getD_some,Option.isSome_some,if_true,coreS,Value.cells,Value.oneCell',Nat.reduceAdd,Nat.reduceSub,Nat.reduceMul,Nat.reduceLeDiff,Int.reduceEq,Nat.reduceEqDiff,Uo,YA,XA,Xg,YV,Zi,YtejmkibjpaoahaaGreatDoorG4Fs110];exact⟨⟨a,n,c,ps,rfl,hn,hr,hp,hm⟩,Chg.Sg x0 _,fs,fc,F1⟩
  |none=>
  obtain⟨i,hi8,hlow,hbit⟩:=low_bit h0' hlt;have hlow2:nP .and .i64 (all:Int) (0-(all:Int))=((2^i:Nat):Int):=by rw[Int.zero_sub];exact hlow
  simp only[Option.getD_none,Option.isSome_none,if_true,q0,hlow,coreS,Value.cells,Value.oneCell',Nat.reduceAdd,Nat.reduceSub,Nat.reduceMul,Nat.reduceLeDiff,Int.reduceEq,Nat.reduceEqDiff,Uo,YA,XA,Xg,YV,Zi,YtejmkibjpaoahaaGreatDoorG4Fs110];refine⟨by rw[zBS];omega,?_⟩;have hnn:¬(h.size=hh.size):=by have:=bA q0;omega
  simp only[hnn,if_false,splice,List.drop,List.take,coreS,Value.cells,Value.oneCell',Nat.reduceAdd,Nat.reduceSub,Nat.reduceMul,Nat.reduceLeDiff,Int.reduceEq,Nat.reduceEqDiff,Uo,YA,XA,Xg,YV,Zi,YtejmkibjpaoahaaGreatDoorG4Fs110];have q1:=Jy (o:= .cells #[.slice none 0 0] 185) q0;have xw:Ext hh (hh.push (.cells #[.slice none 0 0] 185)):=(Ext.refl hh).push _;have OT:iV hh.size (hh.push (.cells #[.slice none 0 0] 185)) 185 1 (some ⟨hh.size,0,none⟩) 1 1 (hdsV [(none,0,0)]):=⟨rfl,.inr ⟨hh.size,_,rfl,Nat.le_refl _,jD,by simp,by simp,by simp[hdsV,hdV]⟩⟩;have ifb:fb<h.size:=bA F.map.obj;have s0:=x0.size;refine zAi [10,11,12,13,34,35,36,37,38,39,40,41,42,43,44,45,46,47,48,49,50,51,52,53,54,55,56,57,58,59,60,61,62,63,64,65,66,67,68,69,70,71] (fun e h'=>Chg hh h' fb/\h'[h.size]? =some (.cells #[.int .i64 (all:Nat)] 184)/\jU kvG h' eb es ce/\(∃fs fc,Fnd (LS.zero l A) h' fb fs fc)/\∃part best:Nat,e 11= .int .i64 part/\LS.Loop (LS.zero l A) all i part best/\∃aT cT T,e 10= .slice aT T.length cT/\iV hh.size h' 185 1 aT T.length cT (hdsV T)/\0<T.length/\T.length+part<=all+1/\(∀u,u∈T->Trd (LS.zero l A) all h' u/\u.2.1<=best)/\∃u,u∈T/\u.2.1=best) (fun e _=>match e 11 with| .int _ q=>q.toNat|_=>0) ?_ ?_
  .refine⟨Chg.Sg xw _,q1,M1.ext xw,⟨fs,fc,F1.ext xw⟩,all,0,rfl,LS.Loop.start _ _ _,some ⟨hh.size,0,none⟩,1,[(none,0,0)],rfl,OT,by simp,by simp;omega,fun u hu=> ?_,(none,0,0),by simp,rfl⟩;rw[List.mem_singleton]at hu;rw[hu];exact⟨.inl rfl,Nat.le_refl _⟩
  rintro e h1 ⟨c1,q2,ME2,⟨fs2,fc2,F2⟩,part,best,he,L,aT,cT,T,heT,OT2,hT0,hTl,hT,hTb⟩;by_cases hp0:0<part
  .have hp1:(0:Int)<(part:Int):=by omega
   have hpa:part&&&all=part:=L.in_;have hple:part<=all:=by rw[<-hpa];exact Nat.and_le_right
   have hpO:part&&&O=part:=by
    have e1:part&&&O=(part&&&all)&&&O:=by rw[hpa]
    rw[e1,Nat.and_assoc,hall,hpa]
   have hEp:=hE part (by omega) hpO;have epn:(part:Int)-1=((part-1:Nat):Int):=by omega
   have enx:nP .and .i64 ((part-1:Nat):Int) (all:Int)=(((part-1)&&&all:Nat):Int):=gbits_and _ _ (by omega) (by omega);have hnl:=LS.next_lt (p:=part) (l:=all) hp0;have e2i:2^i<=128:=by
    have:2^i<=2^7:=Nat.pow_le_pow_right (by decide) (by omega);simpa using this
   have efb:nP .and .i64 (part:Int) ((2^i:Nat):Int)=((part&&&2^i:Nat):Int):=gbits_and _ _ (by omega) (by omega);have meas:(((part-1)&&&all:Nat):Int).toNat<(part:Int).toNat:=by omega
   have skp:(LS.zero l A part->part.testBit i=true->False)->LS.Loop (LS.zero l A) all i ((part-1)&&&all) best:=fun hh=>L.skip hp0 hh
   simp only[he,heT,hp1,decide_true,coreS,Value.cells,Value.oneCell',Nat.reduceAdd,Nat.reduceSub,Nat.reduceMul,Nat.reduceLeDiff,Int.reduceEq,Nat.reduceEqDiff,Uo,YA,XA,Xg,YV,Zi,YtejmkibjpaoahaaGreatDoorG4Fs110];refine zAU Tryz.underlying182 zero2 keysG ME2 (a:=part) (by rfl) (by rfl) ?_;cases hsome:(fZ part es).isSome with
   |false=>
    have hnz:¬LS.zero l A part:=fun hh=>by rw[hEp.2 hh]at hsome;cases hsome
    simp only[he,q2,if_true,Bool.not_false,gd_noneG,epn,enx,coreS,Value.cells,Value.oneCell',Nat.reduceAdd,Nat.reduceSub,Nat.reduceMul,Nat.reduceLeDiff,Int.reduceEq,Nat.reduceEqDiff,Uo,YA,XA,Xg,YV,Zi,YtejmkibjpaoahaaGreatDoorG4Fs110];refine⟨by rw[zBS];omega,Zr (by kernel_rfl) ⟨c1,q2,ME2,⟨fs2,fc2,F2⟩,(part-1)&&&all,best,rfl,skp fun h _=>hnz h,aT,cT,T,rfl,OT2,hT0,by omega,hT,hTb⟩ meas⟩
   |true=>
   have hzp:LS.zero l A part:=hEp.1 hsome;by_cases hb:part.testBit i=true
   case neg=>
    have e0:part&&&2^i=0:=by rw[and_two,if_neg hb]
    rw[e0]at efb;have efb2:nP .and .i64 (part:Int) ((2^i:Nat):Int)=0:=efb;simp only[he,q2,hlow2,efb2,if_true,Bool.not_true,decide_true,epn,enx,coreS,Value.cells,Value.oneCell',Nat.reduceAdd,Nat.reduceSub,Nat.reduceMul,Nat.reduceLeDiff,Int.reduceEq,Nat.reduceEqDiff,Uo,YA,XA,Xg,YV,Zi,YtejmkibjpaoahaaGreatDoorG4Fs110];refine⟨by rw[zBS];omega,Zr (by kernel_rfl) ⟨c1,q2,ME2,⟨fs2,fc2,F2⟩,(part-1)&&&all,best,rfl,skp fun _ h=>hb h,aT,cT,T,rfl,OT2,hT0,by omega,hT,hTb⟩ meas⟩
   have e0:part&&&2^i=2^i:=by rw[and_two,if_pos hb]
   rw[e0]at efb;have ne0:¬((2^i:Nat):Int)=0:=by
    have:0<2^i:=Nat.pow_pos (by decide);omega
   have enot:=gbits_not all part (by omega) hpa;have hn1:¬(h.size=h1.size):=by have:=bA q2;omega
   have hfb1:fb<h1.size:=bA F2.map.obj;have heb1:eb<h1.size:=bA ME2.obj;simp only[he,heT,q2,hlow2,efb,ne0,enot,hn1,if_true,if_false,splice,List.drop,List.take,List.length_cons,List.length_nil,Bool.not_true,decide_false,coreS,Value.cells,Value.oneCell',Nat.reduceAdd,Nat.reduceSub,Nat.reduceMul,Nat.reduceLeDiff,Int.reduceEq,Nat.reduceEqDiff,Uo,YA,XA,Xg,YV,Zi,YtejmkibjpaoahaaGreatDoorG4Fs110];have xa:Ext h1 (h1.push (.cells #[.int .i64 (part:Nat)] 184)):=(Ext.refl h1).push _;have qa:=jD (h:=h1) (o:= .cells #[.int .i64 (part:Nat)] 184);obtain⟨pr1,pr2⟩:=LS.part_rest hpa;have hrO:(all-part)&&&O=all-part:=by
    have e1:(all-part)&&&all=all-part:=by
     have:(part|||(all-part))&&&(all-part)=all-part:=by
      apply Nat.eq_of_testBit_eq;intro j;rw[Nat.testBit_and,Nat.testBit_or];cases(all-part).testBit j<;>simp
     rw[<-pr1]at this;rw[Nat.and_comm];exact this
    have e2:(all-part)&&&O=((all-part)&&&all)&&&O:=by rw[e1]
    rw[e2,Nat.and_assoc,hall,e1]
   refine ak.mono (ih (all-part) (by omega) fs2 fc2 _ hrO (LS.zero_rest hpa hz hzp) (ME2.ext xa) (F2.ext xa)) ?_;rintro v h2 ⟨⟨a3,n3,c3,ps,rfl,hn3,hr3,hpt3,hm3⟩,c2,fs3,fc3,F3⟩;have hle3:=pt_le hpt3;have y2:Chg h1 h2 fb:=(Chg.Sg xa fb).trans c2;have qa2:=c2.get qa (by omega);simp only[he,heT,splice,List.drop,List.take,List.length_cons,List.length_nil,if_true,coreS,Value.cells,Value.oneCell',Nat.reduceAdd,Nat.reduceSub,Nat.reduceMul,Nat.reduceLeDiff,Int.reduceEq,Nat.reduceEqDiff,Uo,YA,XA,Xg,YV,Zi,YtejmkibjpaoahaaGreatDoorG4Fs110];have hh1:=c1.size;have hs2:=y2.size;have OT3:iV hh.size h2 185 1 aT T.length cT (hdsV T):=OT2.keep fun p hp=>y2.old _ (OT2.lt hp).1 (by have:=(OT2.lt hp).2;omega)
   have xc:Ext h2 (h2.push (.cells #[.slice (some ⟨h1.size,0,none⟩) 1 1,.slice a3 n3 c3] 185)):=(Ext.refl h2).push _;refine ak.mono (concat157 (some ⟨h2.size,0,none⟩) 2 (some ⟨h1.size,0,none⟩) 1 1 [part] a3 n3 c3 ps _ (Row.block (c:=hdsV [(some ⟨h1.size,0,none⟩,1,1),(a3,n3,c3)]) jD) ((intsV_one qa2).row.ext xc) rfl (hr3.row.ext xc) hn3 (by omega) (by omega)) ?_;rintro v h4 ⟨⟨a4,c4,rfl,O4⟩,x4⟩;have x24:=xc.trans x4;simp only[he,heT,splice,List.drop,List.take,List.length_cons,List.length_nil,if_true,coreS,Value.cells,Value.oneCell',Nat.reduceAdd,Nat.reduceSub,Nat.reduceMul,Nat.reduceLeDiff,Int.reduceEq,Nat.reduceEqDiff,Uo,YA,XA,Xg,YV,Zi,YtejmkibjpaoahaaGreatDoorG4Fs110];have xd:Ext h4 (h4.push (.cells #[.slice a4 (1+n3) c4] 185)):=(Ext.refl h4).push _;have x2d:=x24.trans xd;have OT4:=OT3.ext x2d;have sd:=x2d.size;refine app189 (m0:=hh.size) (len:=T.length) (T:=T) (U:=[(a4,1+n3,c4)]) rfl rfl OT4 (by omega) (Row.block (c:=hdsV [(a4,1+n3,c4)]) jD) rfl (by omega) fun a5 c5 h5 O5 A5=> ?_
   have c5':Chg hh h5 fb:=by
    have c0:=(c1.trans y2).ext x2d;exact⟨Nat.le_trans c0.size A5.size,fun c hc hne=>(A5.old c (Nat.lt_of_lt_of_le hc c0.size) fun p hp=>by have:=(OT4.lt hp).2;omega).trans (c0.old c hc hne)⟩
   have q5:h5[h.size]? =some (.cells #[.int .i64 (all:Nat)] 184):=A5.updV OT4 (x2d.get (y2.get q2 (by omega))) (bA q0);have M5:jU kvG h5 eb es ce:=((ME2.keep (y2.old eb heb1 hne)).ext x2d).keep (A5.old eb (by omega) fun p hp=>by have:=(OT4.lt hp).2;have:=bA ME.obj;omega);have F5:=(F3.ext x2d).appG A5 OT4 (by omega);have O45:=own_beside (O4.ext xd) A5 OT4 (by decide);have hPt:LS.Pt (LS.zero l A) all ([part]++ps):=⟨all-part,pr1,pr2,hzp,by omega,hpt3⟩;have hLn:=L.take hp0 hzp hm3 (LS.most_made hm3 (LS.zero_rest hpa hz hzp));simp only[he,q5,epn,enx,coreS,Value.cells,Value.oneCell',Nat.reduceAdd,Nat.reduceSub,Nat.reduceMul,Nat.reduceLeDiff,Int.reduceEq,Nat.reduceEqDiff,Uo,YA,XA,Xg,YV,Zi,YtejmkibjpaoahaaGreatDoorG4Fs110];refine⟨by rw[zBS];omega,Zr (by kernel_rfl) ⟨c5',q5,M5,⟨fs3,fc3,F5⟩,(part-1)&&&all,max best (1+n3),rfl,hLn,a5,c5,T++[(a4,1+n3,c4)],by simp,by simpa using O5,by simp,by simp;omega,fun u hu=> ?_,?_⟩ meas⟩
   .rcases List.mem_append.1 hu with hu|hu
    .obtain⟨t1,t2⟩:=hT u hu;refine⟨?_,by omega⟩;rcases t1 with t1|⟨qs,t1,t3,t4⟩
     .exact .inl t1
     .exact .inr ⟨qs,t1,own_beside ((own_chg t3 F2.map.obj y2).ext x2d) A5 OT4 (by decide),t4⟩
    .rw[List.mem_singleton]at hu;rw[hu];exact⟨.inr ⟨[part]++ps,by simp;omega,O45,hPt⟩,by show 1+n3<=_;omega⟩
   .by_cases hbb:best<=1+n3
    .exact⟨(a4,1+n3,c4),by simp,by show 1+n3=_;omega⟩
    .obtain⟨u,hu,e⟩:=hTb;exact⟨u,List.mem_append_left _ hu,by omega⟩
  have hp1:¬(0:Int)<(part:Int):=by omega
  obtain rfl:part=0:=by omega
  simp only[he,heT,hp1,q2,decide_false,coreS,Value.cells,Value.oneCell',Nat.reduceAdd,Nat.reduceSub,Nat.reduceMul,Nat.reduceLeDiff,Int.reduceEq,Nat.reduceEqDiff,Uo,YA,XA,Xg,YV,Zi,YtejmkibjpaoahaaGreatDoorG4Fs110];refine zB9 (by kernel_rfl) zBp [(0,0),(1,0),(2,0),(3,0),(4,1)] (by kernel_rfl) rfl (by kernel_rfl) ?_;simp only[q2,heT,coreS,Value.cells,Value.oneCell',Nat.reduceAdd,Nat.reduceSub,Nat.reduceMul,Nat.reduceLeDiff,Int.reduceEq,Nat.reduceEqDiff,Uo,YA,XA,Xg,YV,Zi,drawS,YtejmkibjpaoahaaGreatDoorG4Fs110];have hTle:T.length<=all+1:=by omega
  refine cQ_sameG _ (best158 aT T.length cT T h1 OT2.row rfl hT0 OT2.cap (by omega)) ?_;obtain⟨tb,htb⟩:∃tb,tb=bstH T:=⟨_,rfl⟩;have htm:tb∈T:=by rw[htb];exact bstH_mem hT0
  have htn:tb.2.1=best:=by
   obtain⟨u,hu,e⟩:=hTb;have h1:=bstH_ge hu;have h2:=(hT tb htm).2;rw[<-htb]at h1;omega
  have hmost:=L.fin hbit;have hb0:=LS.most_pos hmost hz h0';obtain⟨ps,p1,p2,p3⟩:∃ps:List Nat,tb.2.1=ps.length/\iV 0 h1 184 1 tb.1 tb.2.1 tb.2.2 (ints (nz ps))/\LS.Pt (LS.zero l A) all ps:=by
   rcases(hT tb htm).1 with e|hh
   .rw[e]at htn;exact absurd htn.symm hb0
   .exact hh
  rw[<-htb];simp only[hdV,q2,Ye,coreS,Value.cells,Value.oneCell',Nat.reduceAdd,Nat.reduceSub,Nat.reduceMul,Nat.reduceLeDiff,Int.reduceEq,Nat.reduceEqDiff,Uo,YA,XA,Xg,YV,Zi,drawS,YtejmkibjpaoahaaGreatDoorG4Fs110];refine zAR Tryz.underlying187 keysG F2.map (a:=all) (v:= .slice tb.1 tb.2.1 tb.2.2) (by rfl) (by rfl) (by rfl) fun h3 M3 u3=> ?_
  have hfl:fb<h.size:=ifb;have q3:h3[h.size]? =some (.cells #[.int .i64 (all:Nat)] 184):=u3.get q2 (by omega);simp only[q3,Ye,coreS,Value.cells,Value.oneCell',Nat.reduceAdd,Nat.reduceSub,Nat.reduceMul,Nat.reduceLeDiff,Int.reduceEq,Nat.reduceEqDiff,Uo,YA,XA,Xg,YV,Zi,drawS,YtejmkibjpaoahaaGreatDoorG4Fs110];refine zAU Tryz.underlying187 zero185 keysG M3 (a:=all) (by rfl) (by rfl) ?_;rw[UD,if_pos rfl];simp only[Option.getD_some,Bool.false_eq_true,if_false,coreS,Value.cells,Value.oneCell',Nat.reduceAdd,Nat.reduceSub,Nat.reduceMul,Nat.reduceLeDiff,Int.reduceEq,Nat.reduceEqDiff,Uo,YA,XA,Xg,YV,Zi,YtejmkibjpaoahaaGreatDoorG4Fs110];have cu:Chg h1 h3 fb:=(Chg.refl h1 fb).upd u3;have P3:=own_chg p2 F2.map.obj cu;refine⟨⟨tb.1,tb.2.1,tb.2.2,ps,rfl,p1,P3,p3,by rw[htn];exact hmost⟩,(Chg.Sg x0 fb).trans (c1.trans cu),_,_,⟨M3,fun s v hv=> ?_⟩⟩;rw[UD]at hv;split at hv
  .rename_i e;subst e;cases hv;exact⟨tb.1,tb.2.1,tb.2.2,ps,rfl,p1,P3,p3,by rw[htn];exact hmost⟩
  .obtain⟨a,n,c,qs,k1,k2,k3,k4,k5⟩:=F2.val s v hv;exact⟨a,n,c,qs,k1,k2,own_chg k3 F2.map.obj cu,k4,k5⟩
end
end Go.Proofs.YtejmkibjpaoahaaGreatDoor
end
section
namespace Go.Proofs.YtejmkibjpaoahaaGreatDoor
open Go Go.Proofs Go.Eng Go.Run Tab
set_option maxRecDepth 100000
set_option linter.unusedSimpArgs false
set_option linter.unusedVariables false
set_option linter.defProp false
set_option maxHeartbeats 4000000
set_option linter.defProp false
def YtejmkibjpaoahaaGreatDoorG5Fs111:=(And.intro @Tryz.underlying3 (And.intro @Tryz.underlying71 @Tryz.underlying242))
def YtejmkibjpaoahaaGreatDoorG5Fs112:=(And.intro (And.intro @agg3 @by3) (And.intro @inf3 (And.intro @sz3 @Tryz.underlying29)))
def YtejmkibjpaoahaaGreatDoorG5Fs164:=(And.intro @Tryz.underlying242 @Tryz.underlying306)
def YtejmkibjpaoahaaGreatDoorG5Fs169:=(And.intro (And.intro @agg29 @by29) (And.intro @inf29 (And.intro @sz29 @Tryz.underlying71)))
def YtejmkibjpaoahaaGreatDoorG5Fs235:=(And.intro (And.intro @Tryz.underlying3 @Tryz.underlying5) (And.intro @Tryz.underlying9 @Tryz.underlying308))
def YtejmkibjpaoahaaGreatDoorG5Fs238:=(And.intro (And.intro @agg29 @by29) (And.intro @inf29 (And.intro @sz29 @Tryz.underlying71)))
theorem cmp129 (a b:Option Addr)(n c m d:Nat)(x y:Int)(h:Eng.Heap)(hx:jL h (lg a 0)=some (.int .i64 x))(hy:jL h (lg b 0)=some (.int .i64 y))(hn:0<n)(hm:0<m)(ha:a.isSome=true)(hb:b.isSome=true)(hxb:0<=x/\x<=100)(hyb:0<=y/\y<=100):
 ak Tryz.prog 112 #[.slice a n c,.slice b m d] h (fun v h'=>v= .int .i64 (x-y)/\h'=h):=by
 (refine Rm Tryz.func112 rfl bod112 ?_;simp only[Tryz.ntmps112,Tryz.results112,coreS,U1,splice,Value.cells,Value.oneCell',Nat.reduceAdd,Nat.reduceSub,Nat.reduceMul,Nat.reduceLeDiff,Int.reduceEq,Nat.reduceEqDiff,YtejmkibjpaoahaaGreatDoorG5Fs112])
 refine zB9 (by kernel_rfl) zBp [(0,0),(1,0),(2,0),(3,0),(4,0),(5,0),(6,0),(7,0)] (by kernel_rfl) rfl (by kernel_rfl) ?_;have z0:((0:Int)).toNat=0:=rfl;simp only[z0,hx,hy,Ye,coreS,Value.cells,Value.oneCell',Nat.reduceAdd,Nat.reduceSub,Nat.reduceMul,Nat.reduceLeDiff,Int.reduceEq,Nat.reduceEqDiff,drawS,YtejmkibjpaoahaaGreatDoorG5Fs112];exact⟨⟨by omega,by omega⟩,ha,⟨by omega,by omega⟩,hb,by rw[zBS];omega⟩
theorem len193 (n:Nat)(hn:n<256)(h:Eng.Heap):ak Tryz.prog 235 #[.int .u64 n] h (fun v h'=>(∃r:Int,v= .int .i64 r)/\h'=h):=by
 have t1:¬(4294967296:Int)<=(n:Int):=by omega
 have t2:¬(65536:Int)<=(n:Int):=by omega
 have t3:¬(256:Int)<=(n:Int):=by omega
 have key:∀b:UInt8,InK .i64 ((b.toNat:Nat):Int)/\InK .i64 (0+((b.toNat:Nat):Int)):=fun b=>by
  have:=b.toNat_lt;rw[zBS,zBS];omega
 (refine Rm Tryz.func235 rfl bod235 ?_;simp only[Tryz.ntmps235,Tryz.results235,coreS,U1,splice,Value.cells,Value.oneCell',Nat.reduceAdd,Nat.reduceSub,Nat.reduceMul,Nat.reduceLeDiff,Int.reduceEq,Nat.reduceEqDiff,YtejmkibjpaoahaaGreatDoorG5Fs235])
 simp only[t1,t2,t3,decide_false,coreS,Value.cells,Value.oneCell',Nat.reduceAdd,Nat.reduceSub,Nat.reduceMul,Nat.reduceLeDiff,Int.reduceEq,Nat.reduceEqDiff,YtejmkibjpaoahaaGreatDoorG5Fs235];refine⟨by simp[InK,IntKind.min,IntKind.max,IntKind.signed,IntKind.bits];omega,⟨by omega,?_⟩,(key _).1,(key _).2,_,rfl⟩;show(n:Int)<((256:Nat):Int);omega
theorem len161 (n:Nat)(hn:n<256)(h:Eng.Heap):ak Tryz.prog 164 #[.int .u64 n] h (fun v h'=>(∃r:Int,v= .int .i64 r)/\h'=h):=by
 (refine Rm Tryz.func164 rfl bod164 ?_;simp only[Tryz.ntmps164,Tryz.results164,coreS,U1,splice,Value.cells,Value.oneCell',Nat.reduceAdd,Nat.reduceSub,Nat.reduceMul,Nat.reduceLeDiff,Int.reduceEq,Nat.reduceEqDiff,YtejmkibjpaoahaaGreatDoorG5Fs164])
 refine ak.mono (len193 n hn h) ?_;rintro v h1 ⟨⟨r,rfl⟩,rfl⟩;simp only[coreS,Value.cells,Value.oneCell',Nat.reduceAdd,Nat.reduceSub,Nat.reduceMul,Nat.reduceLeDiff,Int.reduceEq,Nat.reduceEqDiff,YtejmkibjpaoahaaGreatDoorG5Fs164];exact⟨r,rfl⟩
theorem ins184 (g c n:Nat)(Kf:Hd->Int)(T0:List Hd)(tl:List Value)(h:Eng.Heap)(hb:h[g]? =some (.cells (hdsV T0++tl).toArray 29 (0,0)))(hn:n=T0.length)(hn1:n<=100)
 (hK:∀u,u∈T0->0<u.2.1/\u.1.isSome=true/\(0<=Kf u/\Kf u<=100)/\∀h',Upd h h' g->jL h' (lg u.1 0)=some (.int .i64 (Kf u))):
 ak Tryz.prog 238 #[.slice (some ⟨g,0,none⟩) n c,.int .i64 0,.int .i64 n,.func (.func 112) #[] #[]] h (fun v h'=>Upd h h' g/\∃T:List Hd,T.Perm T0/\T.Pairwise (fun u w=>Kf u<=Kf w)/\h'[g]? =some (.cells (hdsV T++tl).toArray 29 (0,0))):=by
 have cel:∀{h':Eng.Heap} {T:List Hd} (j:Nat) (hj:j<T.length),h'[g]? =some (.cells (hdsV T++tl).toArray 29 (0,0))->jL h' (lg (some ⟨g,0,none⟩) j)=some (.slice T[j].1 T[j].2.1 T[j].2.2):=fun{h' T} j hj hh=>by
  have R:Row h' (some ⟨g,0,none⟩) (hdsV T++tl):=Row.block hh;have:=R.cell (j:=j) (by rw[List.length_append,hdsV_length];omega);rw[this];rw[List.getElem_append_left (by rw[hdsV_length];exact hj)];simp[hdsV,hdV]
 (refine Rm Tryz.func238 rfl bod238 ?_;simp only[Tryz.ntmps238,Tryz.results238,coreS,U1,splice,Value.cells,Value.oneCell',Nat.reduceAdd,Nat.reduceSub,Nat.reduceMul,Nat.reduceLeDiff,Int.reduceEq,Nat.reduceEqDiff,YtejmkibjpaoahaaGreatDoorG5Fs238])
 refine⟨by rw[zBS];omega,?_⟩;have b0:=Upd.refl h g;have hhK:∀{u:Hd} {T:List Hd},T.Perm T0->u∈T->0<u.2.1/\u.1.isSome=true/\(0<=Kf u/\Kf u<=100)/\∀h',Upd h h' g->jL h' (lg u.1 0)=some (.int .i64 (Kf u)):=fun P hu=>hK _ (P.subset hu)
 refine zAi [8,9,12,13,14,15,16,17,18,19,20,21,22,23,24,25,26,27,28,29,30,31,32,33,34,35,36,37,38,39,40,41,42,43,44,45,46,47,48,49,50,51,52] (fun e h'=>Upd h h' g/\∃i:Nat,1<=i/\(i<=n\/i=1)/\e 8= .int .i64 i/\∃T:List Hd,T.Perm T0/\(T.take i).Pairwise (fun u w=>Kf u<=Kf w)/\h'[g]? =some (.cells (hdsV T++tl).toArray 29 (0,0))) (fun e _=>match e 8 with| .int _ q=>n-q.toNat|_=>0) ⟨b0,1,by omega,.inr rfl,rfl,T0,List.Perm.refl _,?_,hb⟩ ?_
 .cases T0 with
  |nil=>exact List.Pairwise.nil
  |cons x l=>simp
 rintro e h1 ⟨u1,i,hi1,hin,he,T,hP,hS,hb1⟩;have hTl:T.length=n:=by rw[hn];exact hP.length_eq
 by_cases hil:i<n
 case neg=>
  simp only[he,show¬((i:Int)<(n:Int)) by omega,decide_false,coreS,Value.cells,Value.oneCell',Nat.reduceAdd,Nat.reduceSub,Nat.reduceMul,Nat.reduceLeDiff,Int.reduceEq,Nat.reduceEqDiff,YtejmkibjpaoahaaGreatDoorG5Fs238];refine⟨u1,T,hP,?_,hb1⟩;rw[List.take_of_length_le (by omega)]at hS;exact hS
 have hlt:(i:Int)<(n:Int):=by omega
 have meas:n-((i:Int)+1).toNat<n-(i:Int).toNat:=by omega
 simp only[he,hlt,decide_true,coreS,Value.cells,Value.oneCell',Nat.reduceAdd,Nat.reduceSub,Nat.reduceMul,Nat.reduceLeDiff,Int.reduceEq,Nat.reduceEqDiff,YtejmkibjpaoahaaGreatDoorG5Fs238];obtain⟨x,hx⟩:∃x,x=T[i]:=⟨_,rfl⟩;have hTi:T=T.take i++x::T.drop (i+1):=by
  rw[hx]
  conv=>lhs;rw[<-List.take_append_drop i T]
  rw[List.drop_eq_getElem_cons (by omega)]
 refine zAi [9,18,19,20,21,22,23,24,25,26,27,28,29,30,31,32,33,34,35,36,37,38,39,40,41,42,43,44,45,46,47,48,49,50,51,52] (fun e h'=>Upd h h' g/\∃A B:List Hd,e 9= .int .i64 A.length/\A.length+B.length=i/\(A++x::B++T.drop (i+1)).Perm T0/\(A++B).Pairwise (fun u w=>Kf u<=Kf w)/\(∀w∈B,Kf x<=Kf w)/\h'[g]? =some (.cells (hdsV (A++x::B++T.drop (i+1))++tl).toArray 29 (0,0))) (fun e _=>match e 9 with| .int _ q=>q.toNat|_=>0) ⟨u1,T.take i,[],by rw[List.length_take,Nat.min_eq_left (by omega)];rfl,by rw[List.length_take,Nat.min_eq_left (by omega)];simp,by simpa[<-hTi]using hP,by simpa using hS,by simp,by simpa[<-hTi]using hb1⟩ ?_;rintro e2 h2 ⟨u2,A,B,he9,hAB,hP2,hS2,hB2,hb2⟩;have hxm:x∈A++x::B++T.drop (i+1):=by simp
 have hl2:(A++x::B++T.drop (i+1)).length=n:=by rw[hn];exact hP2.length_eq
 have nxt:(A++B).Pairwise (fun u w=>Kf u<=Kf w)->(∀u∈A,Kf u<=Kf x)->((A++x::B++T.drop (i+1)).take (i+1)).Pairwise (fun u w=>Kf u<=Kf w):=fun hp ha=>by
  have e1:(A++x::B++T.drop (i+1)).take (i+1)=A++x::B:=by
   rw[List.take_append_of_le_length (by simp;omega),List.take_of_length_le (by simp;omega)]
  rw[e1,List.pairwise_append];rw[List.pairwise_append]at hp;refine⟨hp.1,List.pairwise_cons.2 ⟨hB2,hp.2.1⟩,fun u hu w hw=> ?_⟩;rcases List.mem_cons.1 hw with rfl|hw
  .exact ha u hu
  .exact hp.2.2 u hu w hw
 by_cases hA0:A.length=0
 .have hA:A=[]:=List.eq_nil_of_length_eq_zero hA0;have hz:((A.length:Nat):Int)=0:=by omega
  simp only[he9,hz,show¬((0:Int)<0) by decide,decide_false,coreS,Value.cells,Value.oneCell',Nat.reduceAdd,Nat.reduceSub,Nat.reduceMul,Nat.reduceLeDiff,Int.reduceEq,Nat.reduceEqDiff,YtejmkibjpaoahaaGreatDoorG5Fs238];refine zB9 (by kernel_rfl) zBp [(0,0),(1,0),(2,0),(3,0),(4,0),(5,0),(6,0),(7,0),(8,0),(9,0),(10,0),(11,0),(12,0),(13,0),(14,0),(15,0),(16,0)] (by kernel_rfl) rfl (by kernel_rfl) ?_;simp only[he9,hz,show¬((0:Int)<0) by decide,decide_false,Ye,coreS,Value.cells,Value.oneCell',Nat.reduceAdd,Nat.reduceSub,Nat.reduceMul,Nat.reduceLeDiff,Int.reduceEq,Nat.reduceEqDiff,drawS,YtejmkibjpaoahaaGreatDoorG5Fs238];exact⟨by rw[zBS];omega,Zr (by kernel_rfl) ⟨u2,i+1,by omega,.inl (by omega),rfl,_,hP2,nxt hS2 (by rw[hA];simp),hb2⟩ meas⟩
 obtain⟨A',y,rfl⟩:∃A' y,A=A'++[y]:=by
  have hne:A≠[]:=fun e=>hA0 (by rw[e];rfl)
  exact⟨A.dropLast,A.getLast hne,(List.dropLast_concat_getLast hne).symm⟩
 obtain⟨D,hD⟩:∃D,D=T.drop (i+1):=⟨_,rfl⟩;rw[<-hD]at hP2 hb2 hxm hl2 nxt;have hL:A'++[y]++x::B++D=A'++y::x::(B++D):=by simp
 have hjl:(A'++[y]).length=A'.length+1:=by simp
 rw[hjl]at he9 hAB;have hym:y∈A'++[y]++x::B++D:=by simp
 have cx:=cel (A'.length+1) (by rw[hl2];omega) hb2;have cy:=cel A'.length (by rw[hl2];omega) hb2;have gx:(A'++[y]++x::B++D)[A'.length+1]'(by rw[hl2];omega)=x:=by
  simp only[hL];rw[List.getElem_append_right (by omega)];simp
 have gy:(A'++[y]++x::B++D)[A'.length]'(by rw[hl2];omega)=y:=by
  simp only[hL];rw[List.getElem_append_right (by omega)];simp
 rw[gx]at cx;rw[gy]at cy;rw[gK,Hz,Nat.zero_add]at cx cy;obtain⟨kx1,kx2,kx3,kx4⟩:=hhK hP2 hxm;obtain⟨ky1,ky2,ky3,ky4⟩:=hhK hP2 hym;have hz:(0:Int)<((A'.length+1:Nat):Int):=by omega
 have ej:((A'.length+1:Nat):Int)-1=((A'.length:Nat):Int):=by omega
 simp only[he9,hz,decide_true,coreS,Value.cells,Value.oneCell',Nat.reduceAdd,Nat.reduceSub,Nat.reduceMul,Nat.reduceLeDiff,Int.reduceEq,Nat.reduceEqDiff,YtejmkibjpaoahaaGreatDoorG5Fs238];refine zB9 (by kernel_rfl) zBp [(0,0),(1,0),(2,0),(3,0),(4,0),(5,0),(6,0),(7,0),(8,0),(9,0),(10,0),(11,0),(12,0),(13,0),(14,0),(15,0),(16,0)] (by kernel_rfl) rfl (by kernel_rfl) ?_;simp only[he9,hz,ej,cx,cy,decide_true,Int.toNat_natCast,Ye,coreS,Value.cells,Value.oneCell',Nat.reduceAdd,Nat.reduceSub,Nat.reduceMul,Nat.reduceLeDiff,Int.reduceEq,Nat.reduceEqDiff,drawS,YtejmkibjpaoahaaGreatDoorG5Fs238];refine⟨⟨by omega,by omega⟩,rfl,by rw[zBS];omega,⟨by omega,by omega⟩,rfl,?_⟩;refine cQ_sameG _ (cmp129 x.1 y.1 _ _ _ _ (Kf x) (Kf y) h2 (kx4 h2 u2) (ky4 h2 u2) kx1 ky1 kx2 ky2 kx3 ky3) ?_;by_cases hxy:Kf x-Kf y<0
 case neg=>
  simp only[hxy,decide_false,Ye,coreS,Value.cells,Value.oneCell',Nat.reduceAdd,Nat.reduceSub,Nat.reduceMul,Nat.reduceLeDiff,Int.reduceEq,Nat.reduceEqDiff,drawS,YtejmkibjpaoahaaGreatDoorG5Fs238];refine⟨by rw[zBS];omega,Zr (by kernel_rfl) ⟨u2,i+1,by omega,.inl (by omega),rfl,_,hP2,nxt hS2 (fun u hu=> ?_),hb2⟩ meas⟩;rw[List.pairwise_append,List.pairwise_append]at hS2;rcases List.mem_append.1 hu with hu|hu
  .have:=hS2.1.2.2 u hu y (by simp);omega
  .rw[List.mem_singleton]at hu;rw[hu];omega
 simp only[hxy,decide_true,Ye,coreS,Value.cells,Value.oneCell',Nat.reduceAdd,Nat.reduceSub,Nat.reduceMul,Nat.reduceLeDiff,Int.reduceEq,Nat.reduceEqDiff,drawS,YtejmkibjpaoahaaGreatDoorG5Fs238];refine zB9 (by kernel_rfl) zBp [(0,0),(1,0),(2,3),(3,3),(4,3),(5,0),(6,0),(7,0),(8,0),(9,0),(10,0),(11,0),(12,0),(13,0),(14,0),(15,1),(16,0),(17,1)] (by kernel_rfl) rfl (by kernel_rfl) ?_;simp only[he9,ej,cx,cy,Int.toNat_natCast,Ye,coreS,Value.cells,Value.oneCell',Nat.reduceAdd,Nat.reduceSub,Nat.reduceMul,Nat.reduceLeDiff,Int.reduceEq,Nat.reduceEqDiff,drawS,YtejmkibjpaoahaaGreatDoorG5Fs238];refine⟨by rw[zBS];omega,by rw[zBS];omega,⟨by omega,by omega⟩,rfl,⟨by omega,by omega⟩,rfl,⟨by omega,by omega⟩,rfl,?_⟩;have hlA:(hdsV A').length=A'.length:=hdsV_length A';have hV:hdsV (A'++[y]++x::B++D)++tl=hdsV A'++hdV y::hdV x::(hdsV (B++D)++tl):=by simp[hdsV]
 rw[hV]at hb2;simp only[hb2,coreS,Value.cells,Value.oneCell',Nat.reduceAdd,Nat.reduceSub,Nat.reduceMul,Nat.reduceLeDiff,Int.reduceEq,Nat.reduceEqDiff,drawS,YtejmkibjpaoahaaGreatDoorG5Fs238];refine Oy hb2 (by simp[hlA];omega) fun h3 g3 u3=> ?_
 rw[MN _ _ _ (by simp[hlA]),List.set_append_right _ _ (by rw[hlA];omega)]at g3;have ed1:A'.length+1-(hdsV A').length=1:=by rw[hlA];omega
 rw[ed1]at g3;simp only[he9,ej,g3,Int.toNat_natCast,Ye,coreS,Value.cells,Value.oneCell',Nat.reduceAdd,Nat.reduceSub,Nat.reduceMul,Nat.reduceLeDiff,Int.reduceEq,Nat.reduceEqDiff,drawS,YtejmkibjpaoahaaGreatDoorG5Fs238];refine⟨⟨by omega,by omega⟩,rfl,?_⟩;refine Oy g3 (by simp[hlA]) fun h4 g4 u4=> ?_
 rw[MN _ _ _ (by simp[hlA]),List.set_append_right _ _ (by rw[hlA];omega)]at g4;have ed0:A'.length-(hdsV A').length=0:=by rw[hlA];omega
 rw[ed0]at g4;have hW:hdsV A'++(List.set (hdV y:: .slice y.1 y.2.1 y.2.2::(hdsV (B++D)++tl)) 0 (.slice x.1 x.2.1 x.2.2))=hdsV (A'++x::(y::B)++D)++tl:=by
  simp[hdsV,hdV]
 rw[hW]at g4;simp only[he9,ej,Ye,coreS,Value.cells,Value.oneCell',Nat.reduceAdd,Nat.reduceSub,Nat.reduceMul,Nat.reduceLeDiff,Int.reduceEq,Nat.reduceEqDiff,drawS,YtejmkibjpaoahaaGreatDoorG5Fs238];refine⟨by rw[zBS];omega,Zr (by kernel_rfl) ⟨(u2.trans u3).trans u4,A',y::B,rfl,by simp;omega,?_,?_,?_,by rw[<-hD];exact g4⟩ ?_⟩
 .rw[<-hD];refine List.Perm.trans ?_ hP2;rw[hL];simp only[List.append_assoc,List.cons_append];exact List.Perm.append_left _ (List.Perm.swap _ _ _)
 .simpa using hS2
 .intro w hw;rcases List.mem_cons.1 hw with rfl|hw
  .omega
  .exact hB2 w hw
 .show((A'.length:Nat):Int).toNat<((A'.length+1:Nat):Int).toNat;omega
theorem pdq160 (g c n r:Nat)(rr:Int)(Kf:Hd->Int)(T0:List Hd)(tl:List Value)(h:Eng.Heap)(hb:h[g]? =some (.cells (hdsV T0++tl).toArray 29 (0,0)))(hn:n=T0.length)(hn1:n<=12)
 (hK:∀u,u∈T0->0<u.2.1/\u.1.isSome=true/\(0<=Kf u/\Kf u<=100)/\∀h',Upd h h' g->jL h' (lg u.1 0)=some (.int .i64 (Kf u))):
 ak Tryz.prog 169 #[.slice (some ⟨g,0,none⟩) n c,.int .i64 0,.int .i64 n,.int .i64 rr,.func (.func 112) #[] #[]] h (fun v h'=>Upd h h' g/\∃T:List Hd,T.Perm T0/\T.Pairwise (fun u w=>Kf u<=Kf w)/\h'[g]? =some (.cells (hdsV T++tl).toArray 29 (0,0))):=by
 have t1:(n:Int)-0<=12:=by omega
 (refine Rm Tryz.func169 rfl bod169 ?_;simp only[Tryz.ntmps169,Tryz.results169,coreS,U1,splice,Value.cells,Value.oneCell',Nat.reduceAdd,Nat.reduceSub,Nat.reduceMul,Nat.reduceLeDiff,Int.reduceEq,Nat.reduceEqDiff,YtejmkibjpaoahaaGreatDoorG5Fs169])
 refine zAi [1,2,3,10,11,12,13,14,15,16,17,18,19,20,21,22,23,24,25,26,27,28,29,30,31,32,33,34,35,36,37,38,39,40,41,42,43,44,45,46,47,48,49,50,51,52,53,54,55,56,57,58,59,60,61,62,63,64,65,66,67,68,69,70,71,72,73,74,75,76,77,78,79,80,81,82,83,84,85,86,87,88,89,90,91,92,93,94,95,96,97,98,99,100,101,102,103,104,105,106,107,108,109,110,111,112,113,114,115,116,117,118,119,120,121,122,123,124,125,126,127,128,129,130,131,132,133,134,135,136,137,138,139,140,141,142,143,144,145,146,147] (fun e h'=>h'=h/\e 1= .int .i64 0/\e 2= .int .i64 n/\e 3= .int .i64 rr) (fun _ _=>0) ⟨rfl,rfl,rfl,rfl⟩ ?_;rintro e h' ⟨rfl,he1,he2,he3⟩;simp only[he1,he2,he3,t1,decide_true,coreS,Value.cells,Value.oneCell',Nat.reduceAdd,Nat.reduceSub,Nat.reduceMul,Nat.reduceLeDiff,Int.reduceEq,Nat.reduceEqDiff,YtejmkibjpaoahaaGreatDoorG5Fs169];refine⟨by rw[zBS];omega,?_⟩;refine ak.mono (ins184 g c n Kf T0 tl h' hb hn (by omega) hK) ?_;rintro v h1 hv;simp only[coreS,Value.cells,Value.oneCell',Nat.reduceAdd,Nat.reduceSub,Nat.reduceMul,Nat.reduceLeDiff,Int.reduceEq,Nat.reduceEqDiff,YtejmkibjpaoahaaGreatDoorG5Fs169];exact hv
theorem sortFunc128 (g c n:Nat)(Kf:Hd->Int)(T0:List Hd)(tl:List Value)(h:Eng.Heap)(hb:h[g]? =some (.cells (hdsV T0++tl).toArray 29 (0,0)))(hn:n=T0.length)(hn1:n<=12)
 (hK:∀u,u∈T0->0<u.2.1/\u.1.isSome=true/\(0<=Kf u/\Kf u<=100)/\∀h',Upd h h' g->jL h' (lg u.1 0)=some (.int .i64 (Kf u))):
 ak Tryz.prog 111 #[.slice (some ⟨g,0,none⟩) n c,.func (.func 112) #[] #[]] h (fun v h'=>Upd h h' g/\∃T:List Hd,T.Perm T0/\T.Pairwise (fun u w=>Kf u<=Kf w)/\h'[g]? =some (.cells (hdsV T++tl).toArray 29 (0,0))):=by
 (refine Rm Tryz.func111 rfl bod111 ?_;simp only[Tryz.ntmps111,Tryz.results111,coreS,U1,splice,Value.cells,Value.oneCell',Nat.reduceAdd,Nat.reduceSub,Nat.reduceMul,Nat.reduceLeDiff,Int.reduceEq,Nat.reduceEqDiff,YtejmkibjpaoahaaGreatDoorG5Fs111])
 refine⟨by rw[zBY];omega,?_⟩;refine ak.mono (len161 n (by omega) h) ?_;rintro v h1 ⟨⟨r,rfl⟩,rfl⟩;simp only[coreS,Value.cells,Value.oneCell',Nat.reduceAdd,Nat.reduceSub,Nat.reduceMul,Nat.reduceLeDiff,Int.reduceEq,Nat.reduceEqDiff,YtejmkibjpaoahaaGreatDoorG5Fs111];refine ak.mono (pdq160 g c n 0 r Kf T0 tl h1 hb hn hn1 hK) ?_;rintro v h2 hv;simp only[coreS,Value.cells,Value.oneCell',Nat.reduceAdd,Nat.reduceSub,Nat.reduceMul,Nat.reduceLeDiff,Int.reduceEq,Nat.reduceEqDiff,YtejmkibjpaoahaaGreatDoorG5Fs111];exact hv
end Go.Proofs.YtejmkibjpaoahaaGreatDoor
end
section
namespace Go.Proofs.YtejmkibjpaoahaaGreatDoor
open Go Go.Proofs Go.Eng
section
variable {e:En}{i k s:Nat}
set_option maxRecDepth 100000
set_option linter.unusedSimpArgs false
set_option linter.unusedVariables false
set_option linter.defProp false
def bl (es:List En)(day:Int)(i:Nat):Int:=balA es day (i:Int)
theorem mod_inj {j:Nat}(hi:i<k)(hj:j<k)(h:(i+s)% k=(j+s)% k):i=j:=by
 have h1:=Nat.sub_mod_eq_zero_of_mod_eq h.symm;have h2:=Nat.sub_mod_eq_zero_of_mod_eq h;rw[Nat.add_sub_add_right,Nat.mod_eq_of_lt (by omega)]at h1 h2;omega
theorem ren_far (hk:0<k):LS.Ren k fun i=>(i+s)% k:=⟨fun i _=>Nat.mod_lt _ hk,fun i j hi hj h=>mod_inj hi hj h⟩
theorem far_back (hs:s<k)(hi:i<k):((i+(k-s))% k+s)% k=i:=by
 rw[Nat.mod_add_mod,show i+(k-s)+s=i+k by omega,Nat.add_mod_right,Nat.mod_eq_of_lt hi]
theorem turned_law {A j:Nat}{l l':Nat->Int}(hs:s<A)(hl:∀i,i<A->l' ((i+s)% A)=l i)(hj:LS.Most (LS.zero l A) (LS.msk (LS.opn l) A) j)(hk:LS.Most (LS.zero l' A) (LS.msk (LS.opn l') A) k):j=k/\LS.opens l A=LS.opens l' A:=by
 have h0:0<A:=by omega
 have hf:=ren_far (s:=s) h0;have hg:=ren_far (k:=A) (s:=A-s) h0;have h1:=LS.most_ren hf hg (fun i hi=>far_back hs hi) (LS.low_open l' A) hk;rw[LS.img_open _ _ hf.lt]at h1;have e1:LS.msk (LS.opn fun j=>l' ((j+s)% A)) A=LS.msk (LS.opn l) A:=by
  apply Nat.eq_of_testBit_eq;intro i;rw[LS.msk_bit,LS.msk_bit];by_cases hi:i<A
  .simp only[LS.opn,hl i hi]
  .simp[hi]
 have e2:∀t,LS.zero (fun j=>l' ((j+s)% A)) A t<->LS.zero l A t:=fun t=>by
  unfold LS.zero;rw[LS.sm_congr (g:=fun i=>if t.testBit i then l i else 0) fun i hi=>by simp only[hl i hi]]
 have e3:LS.zero (fun j=>l' ((j+s)% A)) A=LS.zero l A:=funext fun t=>propext (e2 t)
 rw[e1,e3]at h1;refine⟨most_one hj h1,?_⟩;rw[<-LS.opens_ren hf l'];unfold LS.opens;rw[List.filter_congr fun i hi=>by
  have hi:=List.mem_range.1 hi;show LS.opn l i=LS.opn (fun j=>l' ((j+s)% A)) i;simp only[LS.opn,hl i hi]]
end
end Go.Proofs.YtejmkibjpaoahaaGreatDoor
end
section
set_option linter.unusedVariables false
set_option linter.unusedSimpArgs false
namespace Go.Eng
open Go Go.Run
attribute [local semireducible] aI
section maps4
variable {α:Type}[DecidableEq α]{P:Program}{h:Heap}{er:Env}{ty:TypeId}
theorem key_inj {β γ:Type}{f:β->γ}:∀{l:List β},(l.map f).Nodup->∀{x y},x∈l->y∈l->f x=f y->x=y
 |[],_,x,_,hx,_,_=>by cases hx
 |z::l,hn,x,y,hx,hy,he=>by
  rw[List.map_cons,List.nodup_cons]at hn;rcases List.mem_cons.1 hx with h1|hx<;>rcases List.mem_cons.1 hy with h2|hy
  .rw[h1,h2]
  .exact absurd (List.mem_map.2 ⟨y,hy,by rw[<-he,h1]⟩) hn.1
  .exact absurd (List.mem_map.2 ⟨x,hx,by rw[he,h2]⟩) hn.1
  .exact key_inj hn.2 hx hy he
theorem Zh {u kt vt:TypeId}{kv:α->Value}{z:Value}(hu:P.underlying u=some (.map kt vt))(hz:dJ P vt=some z)(K:Keys P kt kv){b c:Nat}{es:List (α×Value×Nat)}(M:jU kv h b es c){a:α}
 {x k:Operand} {Q:Value->Heap->Prop} (hx:ev er x= .map (some b)) (hk:ev er k=kv a)
 (H:∀h' (w:Nat),jU kv h' b (fF a ((fZ a es).getD z) c es) (jJ a es c)->(a,(fZ a es).getD z,w)∈fF a ((fZ a es).getD z) c es->Upd h h' b->Q (.tuple #[(fZ a es).getD z,.int .i64 w]) h'):aI P (.mapEntry u x k) ty er h Q:=by
 have hs:=qy (o':= .map ((fF a ((fZ a es).getD z) c es).map (dE kv)).toArray (jJ a es c)) M.obj;cases hf:ku a es 0 with
 |none=>
  obtain⟨q1,q2,_⟩:=jY hf;have HQ:=H _ c (M.put hs.1) (by rw[q2];simp) hs.2;refine az rfl (.tuple #[(fZ a es).getD z,.int .i64 c]) _ HQ fun W hW=>⟨{W with heap:=W.heap.setIfInBounds b (.map ((fF a ((fZ a es).getD z) c es).map (dE kv)).toArray (jJ a es c))},?_,by rw[hW],rfl,rfl,rfl⟩
  have M1:=M.obj;rw[<-hW]at M1;have c1:=K.check a false W;have f1:=K.find a es W;have g1:=MapKept.run_getObj_map (P:=P) M1;have g2:=MapKept.run_setObj_map (P:=P) (.map ((fF a ((fZ a es).getD z) c es).map (dE kv)).toArray (jJ a es c)) M1;have hz':(zeroValue vt).run P W= .ok z W:=by
   unfold dJ at hz;cases hi:P.info? vt with
   |none=>simp[hi]at hz
   |some i=>simp only[hi,Option.bind_some]at hz;simp[zeroValue,typeInfo,hi,hz]
  have e0:(fZ a es).getD z=z:=by rw[q1];rfl
  rw[e0]at g2 ⊢;have e1:((es.map (dE kv)).toArray.push {key:=kv a,val:=z,born:=c})=((fF a z c es).map (dE kv)).toArray:=by simp[q2,dE]
  have e2:jJ a es c=c+1:=by simp[jJ,q1]
  rw[hf]at f1;rw[e2]at g2 ⊢;simp only[execOp,Instr.mapEntry,hx,hk,Sem.run_bind,run_underlying hu,Result.andThen_ok,g1,c1,List.toList_toArray,f1,hz',e1,g2,Sem.run_pure,goInt]
 |some r=>
  obtain⟨j,u0⟩:=r;obtain⟨k0,x0,h1,h2,h3,h4,h5,h6,_⟩:=jT hf;have h1:j=k0:=by omega
  subst h1;have hmem:(a,(fZ a es).getD z,x0.2.2)∈fF a ((fZ a es).getD z) c es:=by
   rw[h6,h5];refine List.mem_iff_getElem?.2 ⟨j,?_⟩;rw[List.getElem?_modify,h2];simp
  have HQ:=H _ x0.2.2 (M.put hs.1) hmem hs.2;refine az rfl (.tuple #[(fZ a es).getD z,.int .i64 x0.2.2]) _ HQ fun W hW=>⟨{W with heap:=W.heap.setIfInBounds b (.map ((fF a ((fZ a es).getD z) c es).map (dE kv)).toArray (jJ a es c))},?_,by rw[hW],rfl,rfl,rfl⟩
  have M1:=M.obj;rw[<-hW]at M1;have c1:=K.check a false W;have f1:=K.find a es W;have g1:=MapKept.run_getObj_map (P:=P) M1;have g2:=MapKept.run_setObj_map (P:=P) (.map ((fF a ((fZ a es).getD z) c es).map (dE kv)).toArray (jJ a es c)) M1;have e0:(fZ a es).getD z=u0:=by rw[h5];rfl
  rw[e0]at g2 ⊢;have e1:((es.map (dE kv)).toArray.modify j fun e=>{e with key:=kv a})=((fF a u0 c es).map (dE kv)).toArray:=by
   apply Array.toList_inj.1;rw[gN,h6];apply List.ext_getElem?;intro i;simp only[List.toList_toArray,List.getElem?_modify,List.getElem?_map,Option.map_map];split
   .rename_i he;subst he;rw[h2];simp[dE,h4]
   .cases es[i]? <;>simp[dE]
  have e2:jJ a es c=c:=by simp[jJ,h5]
  have e3:((es.map (dE kv)).toArray[j]?.map (·.key)).getD (kv a)=kv a:=by simp[h2,dE,h3]
  have e4:((es.map (dE kv)).toArray[j]?.map (fun x=>(x.born:Int))).getD 0=(x0.2.2:Int):=by simp[h2,dE]
  have st:=K.stays a W;rw[hf]at f1;rw[e2]at g2 ⊢;simp only[execOp,Instr.mapEntry,hx,hk,Sem.run_bind,run_underlying hu,Result.andThen_ok,g1,c1,List.toList_toArray,f1,e3,st,e1,g2,Sem.run_pure,goInt,e4]
theorem zBM {u:TypeId}{kv:α->Value}{b c:Nat}{es:List (α×Value×Nat)}(M:jU kv h b es c){a:α}{v0 v:Value}{w:Nat}(hm:(a,v0,w)∈es)(hn:(es.map (·.1)).Nodup)
 {x k y:Operand} {Q:Value->Heap->Prop} (hx:ev er x= .map (some b)) (hk:ev er k= .int .i64 w) (hy:ev er y=v)
 (H:∀h',jU kv h' b (fF a v c es) c->Upd h h' b->Q undef h'):aI P (.entryStore u x k y) ty er h Q:=by
 cases hf:ku a es 0 with
 |none=>
  obtain⟨q1,_,_⟩:=jY hf;rw[HV hn hm rfl]at q1;cases q1
 |some r=>
  obtain⟨j,u0⟩:=r;obtain⟨k0,x0,h1,h2,h3,h4,h5,h6,_⟩:=jT hf;have h1:j=k0:=by omega
  subst h1;have hx0:x0=(a,v0,w):=key_inj hn (List.mem_of_getElem? h2) hm h3;subst hx0;have e2:jJ a es c=c:=by simp[jJ,h5]
  have hs:=qy (o':= .map ((fF a v c es).map (dE kv)).toArray (jJ a es c)) M.obj;obtain⟨hp,hhp⟩:∃hp,hp=h.setIfInBounds b (.map ((fF a v c es).map (dE kv)).toArray (jJ a es c)):=⟨_,rfl⟩;rw[<-hhp]at hs;have hM:=M.put hs.1;rw[e2]at hM;have HQ:=H hp hM hs.2;refine oM rfl _ HQ fun W hW=>⟨{W with heap:=W.heap.setIfInBounds b (.map ((fF a v c es).map (dE kv)).toArray (jJ a es c))},?_,by rw[hW,hhp],rfl,rfl,rfl⟩
  have M1:=M.obj;rw[<-hW]at M1;have g1:=MapKept.run_getObj_map (P:=P) M1;have g2:=MapKept.run_setObj_map (P:=P) (.map ((fF a v c es).map (dE kv)).toArray (jJ a es c)) M1;have e1:((es.map (dE kv)).toArray.modify j fun e=>{e with val:=v})=((fF a v c es).map (dE kv)).toArray:=by
   apply Array.toList_inj.1;rw[gN,h6];apply List.ext_getElem?;intro i;simp only[List.toList_toArray,List.getElem?_modify,List.getElem?_map,Option.map_map];split
   .rename_i he;subst he;rw[h2];simp[dE]
   .cases es[i]? <;>simp[dE]
  have hjl:j<es.length:=(List.getElem?_eq_some_iff.1 h2).1;have hf':(es.map (dE kv)).toArray.findIdx? (fun e=>(e.born:Int)==(w:Int))=some j:=by
   have:∀(a:Array MapEntry) (f:MapEntry->Bool),a.findIdx? f=a.toList.findIdx? f:=fun a f=>by cases a;simp
   rw[this,List.toList_toArray,List.findIdx?_eq_some_iff_getElem];refine⟨by simpa using hjl,?_,fun i hi=> ?_⟩
   .have:es[j]=(a,v0,w):=by
     have:=List.getElem?_eq_getElem hjl;rw[this]at h2;exact Option.some.inj h2
    simp[dE,this]
   .have hb:=M.born;rw[List.pairwise_map]at hb;have hlt:=(List.pairwise_iff_getElem.1 hb) i j (by omega) hjl hi;have:es[j]=(a,v0,w):=by
     have:=List.getElem?_eq_getElem hjl;rw[this]at h2;exact Option.some.inj h2
    rw[this]at hlt;have hlt:es[i].2.2<w:=hlt;simp only[List.getElem_map,dE];simp;omega
  rw[e2]at g2 ⊢;simp[execOp,Instr.entryStore,hx,hk,hy,asInt,asIntOf,g1,hf',e1,g2]
end maps4
end Go.Eng
end
section
set_option linter.unusedVariables false
set_option linter.unusedSimpArgs false
namespace Go.Eng
open Go
attribute [local semireducible] aI iP gP lm WP
section drawB
variable {l:Option Nat}{P:Program}{ops:Array Oper}
structure Pre (R:Heap->Heap->Prop):Prop where
 refl:∀h,R h h
 trans:∀a b c,R a b->R b c->R a c
theorem Pre.of {R:Heap->Heap->Prop}(hS:Pre R){a b:Heap}(h:EqH a b):R a b:=by rw[show b=a from h];exact hS.1 _
def qD (P:Program)(ops:Array Oper)(R:Heap->Heap->Prop)(G:Nat->Bool)(Q:Act->World->Prop):Nat->Array Bool->Act->World->Prop
 |0,listed,a,w=>∀w1,Rest w w1->EqH w.heap w1.heap->Region.ready .any ops listed=[]/\Q a w1
 |n+1,listed,a,w=>∀w1,Rest w w1->EqH w.heap w1.heap->(Region.ready .any ops listed=[]->Q a w1)/\
  ∀i∈Region.ready .any ops listed,opD P ops i (fun a' w'=>(G i=true->R w1.heap w'.heap)/\Rest w1 w'/\qD P ops R G Q n (listed.setIfInBounds i true) a' w') a w1
variable {R:Heap->Heap->Prop}{G:Nat->Bool}{Q:Act->World->Prop}
section
variable {v:Value}{w:World}
theorem eqT {a b c:Heap}(x:EqH a b)(y:EqH b c):EqH a c:=Eq.trans y x
theorem oH {n:Nat}{listed:Array Bool}{a:Act}{w':World}(hr:Rest w w')(hR:EqH w.heap w'.heap)(H:qD P ops R G Q n listed a w):qD P ops R G Q n listed a w':=by
 cases n with
 |zero=>exact fun w1 h1 h2=>H w1 (hr.trans h1) (eqT hR h2)
 |succ n=>exact fun w1 h1 h2=>H w1 (hr.trans h1) (eqT hR h2)
theorem sU {Q':Exit->Act->World->Prop}(hQ:∀a w,Q a w->Q' .normal a w):∀(n:Nat) (listed:Array Bool) (a:Act) (w:World),qD P ops R G Q n listed a w->wpAnyIn (fen l) 0 P .any ops Q' n listed a w
 |0,listed,a,w,H=>⟨(H w (Rest.refl w) rfl).1,hQ _ _ (H w (Rest.refl w) rfl).2⟩
 |n+1,listed,a,w,H=>by
  have H:=H w (Rest.refl w) rfl;exact⟨fun h0=>hQ _ _ (H.1 h0),fun i hi=>wpOpIn_mono (fun a' w' h'=>sU hQ n _ a' w' h'.2.2) (mh (H.2 i hi))⟩
def YdB (P:Program)(ops:Array Oper)(R:Heap->Heap->Prop)(o:Oper)(v:Value)(a:Act)(w:World):Prop:=
 (Region.wanted o (yielded ops a.tmps)=true/\∀w',Rest w w'->R w.heap w'.heap->Es P o a w' (fun v' w''=>v'=v/\EqH w'.heap w''.heap))\/
 (Region.wanted o (yielded ops a.tmps)=false/\v=undef)
theorem QK (hS:Pre R){o:Oper}{a:Act}{w':World}(hr:Rest w w')(hR:R w.heap w'.heap)(H:YdB P ops R o v a w):YdB P ops R o v a w':=by
 rcases H with⟨h1,h2⟩|h
 .exact .inl ⟨h1,fun w1 hr1 hR1=>h2 w1 (hr.trans hr1) (hS.2 _ _ _ hR hR1)⟩
 .exact .inr h
theorem Xt {o:Oper}{a a':Act}(H:YdB P ops R o v a w)(he:execOp a'.eval o=execOp a.eval o)(hw:Region.wanted o (yielded ops a'.tmps)=Region.wanted o (yielded ops a.tmps)):YdB P ops R o v a' w:=by
 unfold YdB Es at *;rw[he,hw];exact H
theorem Bg (hS:Pre R){i:Nat}{oi:Oper}(hi:ops[i]? =some oi)(hsel:∀(j:Nat) (o:Oper) cs b,ops[j]? =some o->o.op≠.select cs b)(Bk:List Nat)(hBk:∀j∈Bk,j≠i/\∀oj,ops[j]? =some oj->∃e∈oj.after,Region.binds .any e=true/\(e.on=i\/e.on∈Bk)):
 ∀(fuel:Nat) (listed:Array Bool) (a:Act) (w:World),
  (∀j oj,ops[j]? =some oj->j≠i->listed.getD j true=false->j∉Bk->oi.apart ops oj=true/\G j=true)->(∀j∈Bk,listed.getD j true=false)->
  i∈Region.ready .any ops listed->YdB P ops R oi v a w->
  qD P ops R G Q fuel (listed.setIfInBounds i true) (a.put oi.dst v) w->qD P ops R G Q (fuel+1) listed a w:=by
 intro fuel;have self:∀(fuel:Nat) (listed:Array Bool) (a:Act) (w w1:World),Rest w w1->EqH w.heap w1.heap->YdB P ops R oi v a w->
  qD P ops R G Q fuel (listed.setIfInBounds i true) (a.put oi.dst v) w->opD P ops i (fun a' w'=>(G i=true->R w1.heap w'.heap)/\Rest w1 w'/\qD P ops R G Q fuel (listed.setIfInBounds i true) a' w') a w1:=by
  intro fuel listed a w w1 hr1 hR1 hy H;unfold opD;simp only[hi];rcases hy with⟨hw,hy⟩|⟨hw,hv⟩
  .simp only[hw,if_true];obtain⟨hd,hs⟩:=hy w1 hr1 (hS.of hR1);refine⟨hd,eH ?_ hs⟩;rintro v' w'' hr ⟨rfl,hR⟩;exact⟨fun _=>hS.of hR,hr,oH (hr1.trans hr) (eqT hR1 hR) H⟩
  .simp only[hw];subst hv;exact⟨fun _=>hS.1 _,Rest.refl _,oH hr1 hR1 H⟩
 induction fuel with
 |zero=>
  intro listed a w _ hbl hr hy H w1 hr1 hR1;refine⟨fun h=>(by rw[h]at hr;cases hr),fun j hj=> ?_⟩;by_cases hji:j=i
  .subst hji;exact self 0 listed a w w1 hr1 hR1 hy H
  .have:=ready_mono hj hji;rw[(H w1 hr1 hR1).1]at this;cases this
 |succ fuel ih=>
  intro listed a w hfree hbl hr hy H w1 hr1 hR1;refine⟨fun h=>(by rw[h]at hr;cases hr),fun j hj=> ?_⟩;by_cases hji:j=i
  .subst hji;exact self (fuel+1) listed a w w1 hr1 hR1 hy H
  .have h1:=(H w1 hr1 hR1).2 j (ready_mono hj hji);obtain⟨hjun,oj,hoj,hall⟩:=mem_ready.1 hj;have hnot:j∉Bk:=fun hjB=>by
    obtain⟨e,he,hb,hon⟩:=(hBk j hjB).2 oj hoj;have h1:=hall e he hb;have h0:listed.getD e.on true=false:=by
     rcases hon with hon|hon
     .rw[hon];exact(mem_ready.1 hr).1
     .exact hbl _ hon
    rcases Nat.lt_or_ge e.on listed.size with h'|h'
    .simp[h']at h0 h1;rw[h0]at h1;cases h1
    .simp[Array.getElem?_eq_none h']at h1
   obtain⟨hap,hGj⟩:=hfree j oj hoj hji hjun hnot;obtain⟨hp1,hp2,hp3⟩:=Oper.apart_spec hap;have hsj:∀cs b,oj.op≠.select cs b:=fun cs b=>hsel j oj cs b hoj
   have hsi:∀cs b,oi.op≠.select cs b:=fun cs b=>hsel i oi cs b hi
   have hfree':∀k ok,ops[k]? =some ok->k≠i->(listed.setIfInBounds j true).getD k true=false->
    k∉Bk->oi.apart ops ok=true/\G k=true:=fun k ok hk hki hun hno=>by
    refine hfree k ok hk hki ?_ hno;by_cases hjk:j=k
    .subst hjk;exact hjun
    .rw[getD_set_ne true hjk]at hun;exact hun
   have hbl':∀k∈Bk,(listed.setIfInBounds j true).getD k true=false:=fun k hk=>by
    have hjk:j≠k:=fun h=>hnot (h▸hk)
    rw[getD_set_ne true hjk];exact hbl k hk
   have step:∀(u:Value) (w':World),Rest w1 w'->((G j=true->R w1.heap w'.heap)/\Rest w1 w'/\qD P ops R G Q fuel ((listed.setIfInBounds i true).setIfInBounds j true) ((a.put oi.dst v).put oj.dst u) w')->
    (G j=true->R w1.heap w'.heap)/\Rest w1 w'/\qD P ops R G Q (fuel+1) (listed.setIfInBounds j true) (a.put oj.dst u) w':=by
    rintro u w' hr' ⟨hg,hr2,hany⟩;refine⟨hg,hr2,ih (listed.setIfInBounds j true) (a.put oj.dst u) w' hfree' hbl' (ready_mono hr (Ne.symm hji)) ?_ ?_⟩
    .exact Xt (QK hS (hr1.trans hr2) (hS.2 _ _ _ (hS.of hR1) (hg hGj)) hy) (execOp_put oi hsi a oj.dst u hp3) (wanted_put oi a oj.dst u hp3)
    .rw[Array.setIfInBounds_comm _ _ hji,<-Act.put_comm a v u hp2];exact hany
   unfold opD at h1 ⊢;simp only[hoj]at h1 ⊢;rw[wanted_put oj a oi.dst v hp1]at h1;split
   .rename_i hw;simp only[hw,if_true]at h1;refine⟨h1.1,?_⟩;have h2:=h1.2;rw[execOp_put oj hsj a oi.dst v hp1]at h2;exact eH (fun u w' hr' h3=>step u w' hr' h3) h2
   .rename_i hw;simp only[hw]at h1;exact step undef w1 (Rest.refl _) h1
theorem yY (hS:Pre R){i:Nat}{oi:Oper}(hi:ops[i]? =some oi)(hsel:∀(j:Nat) (o:Oper) cs b,ops[j]? =some o->o.op≠.select cs b)(Bk:List Nat)(hBk:∀j∈Bk,j≠i/\∀oj,ops[j]? =some oj->∃e∈oj.after,Region.binds .any e=true/\(e.on=i\/e.on∈Bk)):
 ∀(fuel:Nat) (listed:Array Bool) (a:Act) (w:World),
  (∀j oj,ops[j]? =some oj->j≠i->listed.getD j true=false->j∉Bk->oi.apart ops oj=true)->(∀j∈Bk,listed.getD j true=false)->
  i∈Region.ready .any ops listed->YdP P ops oi v a w->
  qD P ops R G Q fuel (listed.setIfInBounds i true) (a.put oi.dst v) w->qD P ops R G Q (fuel+1) listed a w:=by
 intro fuel;have self:∀(fuel:Nat) (listed:Array Bool) (a:Act) (w w1:World),Rest w w1->EqH w.heap w1.heap->YdP P ops oi v a w->
  qD P ops R G Q fuel (listed.setIfInBounds i true) (a.put oi.dst v) w->opD P ops i (fun a' w'=>(G i=true->R w1.heap w'.heap)/\Rest w1 w'/\qD P ops R G Q fuel (listed.setIfInBounds i true) a' w') a w1:=by
  intro fuel listed a w w1 hr1 hR1 hy H;unfold opD;simp only[hi];rcases hy with⟨hw,hy⟩|⟨hw,hv⟩
  .simp only[hw,if_true];obtain⟨hd,hs⟩:=hy w1 hr1;refine⟨hd,eH ?_ hs⟩;rintro v' w'' hr ⟨rfl,hE⟩;have hR:EqH w1.heap w''.heap:=hE;exact⟨fun _=>hS.of hR,hr,oH (hr1.trans hr) (eqT hR1 hR) H⟩
  .simp only[hw];subst hv;exact⟨fun _=>hS.1 _,Rest.refl _,oH hr1 hR1 H⟩
 induction fuel with
 |zero=>
  intro listed a w _ hbl hr hy H w1 hr1 hR1;refine⟨fun h=>(by rw[h]at hr;cases hr),fun j hj=> ?_⟩;by_cases hji:j=i
  .subst hji;exact self 0 listed a w w1 hr1 hR1 hy H
  .have:=ready_mono hj hji;rw[(H w1 hr1 hR1).1]at this;cases this
 |succ fuel ih=>
  intro listed a w hfree hbl hr hy H w1 hr1 hR1;refine⟨fun h=>(by rw[h]at hr;cases hr),fun j hj=> ?_⟩;by_cases hji:j=i
  .subst hji;exact self (fuel+1) listed a w w1 hr1 hR1 hy H
  .have h1:=(H w1 hr1 hR1).2 j (ready_mono hj hji);obtain⟨hjun,oj,hoj,hall⟩:=mem_ready.1 hj;have hnot:j∉Bk:=fun hjB=>by
    obtain⟨e,he,hb,hon⟩:=(hBk j hjB).2 oj hoj;have h1:=hall e he hb;have h0:listed.getD e.on true=false:=by
     rcases hon with hon|hon
     .rw[hon];exact(mem_ready.1 hr).1
     .exact hbl _ hon
    rcases Nat.lt_or_ge e.on listed.size with h'|h'
    .simp[h']at h0 h1;rw[h0]at h1;cases h1
    .simp[Array.getElem?_eq_none h']at h1
   have hap:=hfree j oj hoj hji hjun hnot;obtain⟨hp1,hp2,hp3⟩:=Oper.apart_spec hap;have hsj:∀cs b,oj.op≠.select cs b:=fun cs b=>hsel j oj cs b hoj
   have hsi:∀cs b,oi.op≠.select cs b:=fun cs b=>hsel i oi cs b hi
   have hfree':∀k ok,ops[k]? =some ok->k≠i->(listed.setIfInBounds j true).getD k true=false->
    k∉Bk->oi.apart ops ok=true:=fun k ok hk hki hun hno=>by
    refine hfree k ok hk hki ?_ hno;by_cases hjk:j=k
    .subst hjk;exact hjun
    .rw[getD_set_ne true hjk]at hun;exact hun
   have hbl':∀k∈Bk,(listed.setIfInBounds j true).getD k true=false:=fun k hk=>by
    have hjk:j≠k:=fun h=>hnot (h▸hk)
    rw[getD_set_ne true hjk];exact hbl k hk
   have step:∀(u:Value) (w':World),Rest w1 w'->((G j=true->R w1.heap w'.heap)/\Rest w1 w'/\qD P ops R G Q fuel ((listed.setIfInBounds i true).setIfInBounds j true) ((a.put oi.dst v).put oj.dst u) w')->
    (G j=true->R w1.heap w'.heap)/\Rest w1 w'/\qD P ops R G Q (fuel+1) (listed.setIfInBounds j true) (a.put oj.dst u) w':=by
    rintro u w' hr' ⟨hg,hr2,hany⟩;refine⟨hg,hr2,ih (listed.setIfInBounds j true) (a.put oj.dst u) w' hfree' hbl' (ready_mono hr (Ne.symm hji)) ?_ ?_⟩
    .exact TQ (DV (hr1.trans hr2) hy) (execOp_put oi hsi a oj.dst u hp3) (wanted_put oi a oj.dst u hp3)
    .rw[Array.setIfInBounds_comm _ _ hji,<-Act.put_comm a v u hp2];exact hany
   unfold opD at h1 ⊢;simp only[hoj]at h1 ⊢;rw[wanted_put oj a oi.dst v hp1]at h1;split
   .rename_i hw;simp only[hw,if_true]at h1;refine⟨h1.1,?_⟩;have h2:=h1.2;rw[execOp_put oj hsj a oi.dst v hp1]at h2;exact eH (fun u w' hr' h3=>step u w' hr' h3) h2
   .rename_i hw;simp only[hw]at h1;exact step undef w1 (Rest.refl _) h1
end
end drawB
def RB (m:Nat)(h h':Heap):Prop:=h.size<=h'.size/\∀b,b<m->h'[b]? =h[b]?
theorem xZ (m:Nat):Pre (RB m):=⟨fun h=>⟨Nat.le_refl _,fun _ _=>rfl⟩,fun a b c x y=>⟨Nat.le_trans x.1 y.1,fun i hi=>(y.2 i hi).trans (x.2 i hi)⟩⟩
theorem RB.Sg {m:Nat}{h h':Heap}(x:Ext h h')(hm:m<=h.size):RB m h h':=⟨x.size,fun b hb=>x.old b (by omega)⟩
theorem RB.zCD {m b:Nat}{h h':Heap}(u:Upd h h' b)(hm:m<=b):RB m h h':=⟨by rw[u.size];exact Nat.le_refl _,fun i hi=>u.old i (by omega)⟩
theorem RB.refl (m:Nat)(h:Heap):RB m h h:=(xZ m).1 h
theorem RB.trans {m:Nat}{a b c:Heap}(x:RB m a b)(y:RB m b c):RB m a c:=(xZ m).2 _ _ _ x y
theorem RB.get {m b:Nat}{h h':Heap}{o:Obj}(x:RB m h h')(hb:b<m)(hg:h[b]? =some o):h'[b]? =some o:=(x.2 b hb).trans hg
theorem RB.ext {h h':Heap}(x:RB h.size h h'):Ext h h':=⟨x.1,fun b hb=>x.2 b hb⟩
def WM (m:Nat)(v:Value):Prop:=match v with| .pointer (some a)=>a.block<m|_=>False
def ldB (P:Program)(m:Nat)(o:Op)(e:Env)(h:Heap)(K:Value->Heap->Prop):Prop:=match o with| .load t x=>WM m (ev e x)/\fU P t (ev e x) h K|_=>False
inductive PB where
 |fin
 |load (i:Nat) (r:PB)
 |pure (i:Nat) (r:PB)
 |keep (i:Nat) (r:PB)
 |fork (x y:Nat) (a b:PB)
 |lu (x y z:Nat) (a b c:PB)
def PB.size:PB->Nat
 | .fin=>0
 | .load _ r| .pure _ r| .keep _ r=>r.size+1
 | .fork _ _ a _=>a.size+1
 | .lu _ _ _ a _ _=>a.size+1
section XD
variable {P:Program}{l:Option Nat}{m:Nat}
def bV (P:Program)(m:Nat)(all:List Oper):PB->aj->Env->List Deferred->Heap->Prop
 | .fin,k,e,d,h=>k .normal e d h
 | .load i rest,k,e,d,h=>match all[i]? with
   |some o=>ax o.guard all e (fun e=>ldB P m o.op e h (fun v h'=>bV P m all rest k (aU e o.dst v) d h')) (fun e=>bV P m all rest k (aU e o.dst undef) d h)
   |none=>False
 | .pure i rest,k,e,d,h=>match all[i]? with
   |some o=>ax o.guard all e (fun e=>fK P o.op e h (fun v h'=>bV P m all rest k (aU e o.dst v) d h')) (fun e=>bV P m all rest k (aU e o.dst undef) d h)
   |none=>False
 | .keep i rest,k,e,d,h=>stO P all all[i]? e h (fun e h''=>RB m h h''/\bV P m all rest k e d h'')
 | .fork x y a b,k,e,d,h=>stO P all all[x]? e h (fun e h''=>RB m h h''/\bV P m all a k e d h'')/\stO P all all[y]? e h (fun e h''=>RB m h h''/\bV P m all b k e d h'')
 | .lu x y z a b c,k,e,d,h=>stO P all all[x]? e h (fun e h''=>RB m h h''/\bV P m all a k e d h'')/\stO P all all[y]? e h (fun e h''=>RB m h h''/\bV P m all b k e d h'')/\stO P all all[z]? e h (fun e h''=>RB m h h''/\bV P m all c k e d h'')
def okB (all:List Oper):PB->Array Bool->Bool
 | .fin,listed=>(Region.ready .any all.toArray listed).isEmpty
 | .load i rest,listed=>(Region.ready .any all.toArray listed).contains i&&vQ all listed i (blk all listed i all.length 0 [])&&
  ((List.range all.length).all fun j=>j==i||listed.getD j true||(blk all listed i all.length 0 []).contains j||(match all[i]?,all[j]? with|some oi,some oj=>oi.apart all.toArray oj|_,_=>true))&&
  okB all rest (listed.setIfInBounds i true)
 | .pure i rest,listed=>(Region.ready .any all.toArray listed).contains i&&vQ all listed i (blk all listed i all.length 0 [])&&
  ((List.range all.length).all fun j=>j==i||listed.getD j true||(blk all listed i all.length 0 []).contains j||(match all[i]?,all[j]? with|some oi,some oj=>oi.apart all.toArray oj|_,_=>true))&&
  okB all rest (listed.setIfInBounds i true)
 | .keep i rest,listed=>decide (Region.ready .any all.toArray listed=[i])&&okB all rest (listed.setIfInBounds i true)
 | .fork x y a b,listed=>decide (Region.ready .any all.toArray listed=[x,y])&&(decide (a.size=b.size)&&(okB all a (listed.setIfInBounds x true)&&okB all b (listed.setIfInBounds y true)))
 | .lu x y z a b c,listed=>decide (Region.ready .any all.toArray listed=[x,y,z])&&(decide (a.size=b.size)&&(decide (a.size=c.size)&&(okB all a (listed.setIfInBounds x true)&&(okB all b (listed.setIfInBounds y true)&&okB all c (listed.setIfInBounds z true)))))
theorem Ay {t:TypeId}{v:Value}{h h':Heap}{K:Value->Heap->Prop}(ho:WM m v)(hR:RB m h h')(H:fU P t v h K):∃x,K x h/\fU P t v h' (fun y _=>y=x):=by
 unfold fU at H ⊢;split at H
 case h_2=>exact H.elim
 rename_i p;have hc:jL h' p=jL h p:=by
  cases p with
  |none=>rfl
  |some a=>unfold jL;simp only[hR.2 a.block ho]
 have hcs:∀n,gm h' p n=gm h p n:=by
  intro n;cases p with
  |none=>rfl
  |some a=>unfold gm;simp only[hR.2 a.block ho]
 cases hag:zF P t with
 |none=>simp[hag]at H
 |some b=>
  simp only[hag]at H ⊢;cases b with
  |true=>
   obtain⟨hi,H⟩:=H;rw[oP]at H;obtain⟨cs,h1,h2⟩:=H;exact⟨_,h2,hi,oP.2 ⟨cs,(hcs _).trans h1,rfl⟩⟩
  |false=>
   simp only at H ⊢;rw[je]at H;obtain⟨x,h1,h2⟩:=H;exact⟨_,h2,je.2 ⟨x,hc.trans h1,rfl⟩⟩
theorem Qh {o:Op}{e:Env}{h:Heap}{K:Value->Heap->Prop}(H:ldB P m o e h K):iX o=true/\∃v,K v h/\∀(ty:TypeId) (w:World),RB m h w.heap->(execOp (ev e) {dst:=none,op:=o,type:=ty,pos:= "",after:= #[],guard:=none}).run P w= .ok (.value v) w:=by
 unfold ldB at H;split at H
 .rename_i t x;obtain⟨ho,H⟩:=H;obtain⟨x0,hk,_⟩:=Ay ho (RB.refl m h) H;refine⟨rfl,?_⟩;have key:∀h',RB m h h'->∃y,K y h/\fU P t (ev e x) h' (fun z _=>z=y):=fun h' hR=>Ay ho hR H
  obtain⟨y,hy,hl⟩:=key h (RB.refl m h);refine⟨y,hy,fun ty w hR=> ?_⟩;have:fU P t (ev e x) h (fun z _=>z=y):=hl;obtain⟨z,rfl,hz⟩:=Ay ho hR this;obtain⟨u,rfl,hr⟩:=og hz;have:=hr w rfl;simp only[execOp,Sem.run_bind,this,Result.andThen_ok,Sem.run_pure]
 .exact H.elim
theorem dZ {all:List Oper}{k:aj}{w0:World}(hsel:Region.noSelect all.toArray=true):∀(t:PB) (listed:Array Bool) (e:Env) (d:List Deferred) (w:World),Rest w0 w->
 okB all t listed=true->bV P m all t k e d w.heap->
 qD P all.toArray (RB m) (fun _=>true) (fun a w'=>k .normal a.tmps.toList a.defers w'.heap/\Rest w0 w') t.size listed ⟨e.toArray,d⟩ w
 | .fin,listed,e,d,w,hr,hok,H=>fun w1 hr1 hR1=>by
   refine⟨by simpa[okB]using hok,?_,hr.trans hr1⟩;rw[show w1.heap=w.heap from hR1];unfold bV at H;simpa using H
 | .load i rest,listed,e,d,w,hr,hok,H=>by
   simp only[okB,Bool.and_eq_true]at hok;obtain⟨⟨⟨hready,hbk⟩,hG⟩,hok⟩:=hok;unfold bV at H;cases hi:all[i]? with
   |none=>simp[hi]at H
   |some o=>
    simp only[hi]at H;have hi':all.toArray[i]? =some o:=by simpa using hi
    obtain⟨Bk,hBke⟩:∃Bk,Bk=blk all listed i all.length 0 []:=⟨_,rfl⟩;rw[<-hBke]at hbk hG;have hb1:∀j∈Bk,listed.getD j true=false:=fun j hj=>by
     have:=List.all_eq_true.1 hbk j hj;simp only[Bool.and_eq_true,Bool.not_eq_true']at this;exact this.1.1
    have hb2:∀j∈Bk,j≠i/\∀oj,all.toArray[j]? =some oj->∃e∈oj.after,Region.binds .any e=true/\(e.on=i\/e.on∈Bk):=fun j hj=>by
     have:=List.all_eq_true.1 hbk j hj;simp only[Bool.and_eq_true,bne_iff_ne,ne_eq]at this;refine⟨this.1.2,fun oj hoj=> ?_⟩;have hj2:all[j]? =some oj:=by simpa using hoj
     have h2:=this.2;rw[hj2]at h2;obtain⟨e,he,hb⟩:=Array.any_eq_true'.1 h2;simp only[Bool.and_eq_true,Bool.or_eq_true,beq_iff_eq,List.contains_eq_mem,decide_eq_true_eq]at hb;exact⟨e,he,hb.1,hb.2⟩
    have hfr:∀j oj,all.toArray[j]? =some oj->j≠i->listed.getD j true=false->j∉Bk->o.apart all.toArray oj=true:=by
     intro j oj hj hne hun hno;have hlt:j<all.length:=by have:=(Array.getElem?_eq_some_iff.1 hj).1;simpa using this
     have:=List.all_eq_true.1 hG j (List.mem_range.2 hlt);have hj2:all[j]? =some oj:=by simpa using hj
     simp only[hi,hj2,Bool.or_eq_true,Bool.and_eq_true,beq_iff_eq,hne,false_or,hun,Bool.false_eq_true,List.contains_eq_mem,decide_eq_true_eq,hno]at this;exact this
    have hrdy:i∈Region.ready .any all.toArray listed:=by simpa using hready
    rcases dB H o rfl with⟨hw,hA⟩|⟨hw,hB⟩
    .obtain⟨hd,v,hk,hv⟩:=Qh hA;refine Bg (xZ m) hi' (Region.noSelect_spec hsel) Bk hb2 rest.size listed _ w (fun j oj a b c d=>⟨hfr j oj a b c d,rfl⟩) hb1 hrdy (v:=v) ?_ ?_
     .refine .inl ⟨hw,fun w' hr' hR=>⟨hd,?_⟩⟩;rw[dY,bW,hv _ w' hR];exact⟨⟨rfl,rfl⟩,Rest.refl _⟩
     .rw[ay];exact dZ hsel rest _ _ d w hr hok hk
    .refine Bg (xZ m) hi' (Region.noSelect_spec hsel) Bk hb2 rest.size listed _ w (fun j oj a b c d=>⟨hfr j oj a b c d,rfl⟩) hb1 hrdy (v:=undef) (.inr ⟨hw,rfl⟩) ?_;rw[ay];exact dZ hsel rest _ _ d w hr hok hB
 | .pure i rest,listed,e,d,w,hr,hok,H=>by
   simp only[okB,Bool.and_eq_true]at hok;obtain⟨⟨⟨hready,hbk⟩,hG⟩,hok⟩:=hok;unfold bV at H;cases hi:all[i]? with
   |none=>simp[hi]at H
   |some o=>
    simp only[hi]at H;have hi':all.toArray[i]? =some o:=by simpa using hi
    obtain⟨Bk,hBke⟩:∃Bk,Bk=blk all listed i all.length 0 []:=⟨_,rfl⟩;rw[<-hBke]at hbk hG;have hb1:∀j∈Bk,listed.getD j true=false:=fun j hj=>by
     have:=List.all_eq_true.1 hbk j hj;simp only[Bool.and_eq_true,Bool.not_eq_true']at this;exact this.1.1
    have hb2:∀j∈Bk,j≠i/\∀oj,all.toArray[j]? =some oj->∃e∈oj.after,Region.binds .any e=true/\(e.on=i\/e.on∈Bk):=fun j hj=>by
     have:=List.all_eq_true.1 hbk j hj;simp only[Bool.and_eq_true,bne_iff_ne,ne_eq]at this;refine⟨this.1.2,fun oj hoj=> ?_⟩;have hj2:all[j]? =some oj:=by simpa using hoj
     have h2:=this.2;rw[hj2]at h2;obtain⟨e,he,hb⟩:=Array.any_eq_true'.1 h2;simp only[Bool.and_eq_true,Bool.or_eq_true,beq_iff_eq,List.contains_eq_mem,decide_eq_true_eq]at hb;exact⟨e,he,hb.1,hb.2⟩
    have hfr:∀j oj,all.toArray[j]? =some oj->j≠i->listed.getD j true=false->j∉Bk->o.apart all.toArray oj=true:=by
     intro j oj hj hne hun hno;have hlt:j<all.length:=by have:=(Array.getElem?_eq_some_iff.1 hj).1;simpa using this
     have:=List.all_eq_true.1 hG j (List.mem_range.2 hlt);have hj2:all[j]? =some oj:=by simpa using hj
     simp only[hi,hj2,Bool.or_eq_true,Bool.and_eq_true,beq_iff_eq,hne,false_or,hun,Bool.false_eq_true,List.contains_eq_mem,decide_eq_true_eq,hno]at this;exact this
    have hrdy:i∈Region.ready .any all.toArray listed:=by simpa using hready
    rcases dB H o rfl with⟨hw,hA⟩|⟨hw,hB⟩
    .obtain⟨hd,v,hk,hv⟩:=oD (ty:=o.type) hA;refine yY (xZ m) hi' (Region.noSelect_spec hsel) Bk hb2 rest.size listed _ w hfr hb1 hrdy (v:=v) ?_ ?_
     .refine .inl ⟨hw,fun w' hr'=>⟨hd,?_⟩⟩;rw[dY,bW,hv w'];exact⟨⟨rfl,rfl⟩,Rest.refl _⟩
     .rw[ay];exact dZ hsel rest _ _ d w hr hok hk
    .refine yY (xZ m) hi' (Region.noSelect_spec hsel) Bk hb2 rest.size listed _ w hfr hb1 hrdy (v:=undef) (.inr ⟨hw,rfl⟩) ?_;rw[ay];exact dZ hsel rest _ _ d w hr hok hB
 | .keep i rest,listed,e,d,w,hr,hok,H=>by
   intro w1 hr1 hR1;simp only[okB,Bool.and_eq_true,decide_eq_true_eq]at hok;obtain⟨h1,hok⟩:=hok;unfold bV at H;rw[<-show w1.heap=w.heap from hR1]at H;rw[h1];refine⟨fun h=>by simp at h,fun q hq=> ?_⟩;have hq:q=i:=by simpa using hq
   subst hq;refine dU (G:=fun _=>true) (Kx:=fun e h''=>bV P m all rest k e d h'') (fC H fun e h hk=>⟨fun _=>hk.1,hk.2⟩) fun e2 w2 hr2 K2=> ?_
   exact dZ hsel rest _ _ d w2 (hr.trans (hr1.trans hr2)) hok K2
 | .fork x y a b,listed,e,d,w,hr,hok,H=>by
   intro w1 hr1 hR1;simp only[okB,Bool.and_eq_true,decide_eq_true_eq]at hok;obtain⟨h1,h2,o1,o2⟩:=hok;unfold bV at H;rw[<-show w1.heap=w.heap from hR1]at H;obtain⟨A,B⟩:=H;rw[h1];refine⟨fun h=>by simp at h,fun q hq=> ?_⟩;have hq:q=x\/q=y:=by simpa using hq
   rcases hq with rfl|rfl
   .refine dU (G:=fun _=>true) (Kx:=fun e h''=>bV P m all a k e d h'') (fC A fun e h hk=>⟨fun _=>hk.1,hk.2⟩) fun e2 w2 hr2 K2=> ?_
    exact dZ hsel a _ _ d w2 (hr.trans (hr1.trans hr2)) o1 K2
   .refine dU (G:=fun _=>true) (Kx:=fun e h''=>bV P m all b k e d h'') (fC B fun e h hk=>⟨fun _=>hk.1,hk.2⟩) fun e2 w2 hr2 K2=> ?_
    have:=dZ (w0:=w0) hsel b _ _ d w2 (hr.trans (hr1.trans hr2)) o2 K2;rw[<-h2]at this;exact this
 | .lu x y z a b c,listed,e,d,w,hr,hok,H=>by
   intro w1 hr1 hR1;simp only[okB,Bool.and_eq_true,decide_eq_true_eq]at hok;obtain⟨h1,h2,h3,o1,o2,o3⟩:=hok;unfold bV at H;rw[<-show w1.heap=w.heap from hR1]at H;obtain⟨A,B,C⟩:=H;rw[h1];refine⟨fun h=>by simp at h,fun q hq=> ?_⟩;have hq:q=x\/q=y\/q=z:=by simpa using hq
   rcases hq with rfl|rfl|rfl
   .refine dU (G:=fun _=>true) (Kx:=fun e h''=>bV P m all a k e d h'') (fC A fun e h hk=>⟨fun _=>hk.1,hk.2⟩) fun e2 w2 hr2 K2=> ?_
    exact dZ hsel a _ _ d w2 (hr.trans (hr1.trans hr2)) o1 K2
   .refine dU (G:=fun _=>true) (Kx:=fun e h''=>bV P m all b k e d h'') (fC B fun e h hk=>⟨fun _=>hk.1,hk.2⟩) fun e2 w2 hr2 K2=> ?_
    have:=dZ (w0:=w0) hsel b _ _ d w2 (hr.trans (hr1.trans hr2)) o2 K2;rw[<-h2]at this;exact this
   .refine dU (G:=fun _=>true) (Kx:=fun e h''=>bV P m all c k e d h'') (fC C fun e h hk=>⟨fun _=>hk.1,hk.2⟩) fun e2 w2 hr2 K2=> ?_
    have:=dZ (w0:=w0) hsel c _ _ d w2 (hr.trans (hr1.trans hr2)) o3 K2;rw[<-h3]at this;exact this
theorem zA5 (hm:P.follows .mixedOrders=true)(m:Nat){id:Nat}{all:List Oper}{k:aj}{e:Env}{d:List Deferred}{h:Heap}(t:PB)
 (hsel:Region.noSelect all.toArray=true) (hlen:t.size=all.length) (hok:okB all t (Array.replicate all.length false)=true)
 (H:bV P m all t k e d h):WP l P (.region id all.toArray true) k e d h:=by
 unfold WP;intro w hw;subst hw;refine wpIn_region_any hm ?_;have h1:=dZ (w0:=w) hsel t _ e d {w with drawn:=w.drawn+1} ⟨rfl,rfl,rfl⟩ hok H;rw[hlen]at h1;have h2:=sU (l:=l) (Q':=fun x a w'=>k x a.tmps.toList a.defers w'.heap/\Rest w w') (fun a w' hq=>hq) _ _ _ _ h1;simpa using h2
variable {all:List Oper}{rest:PB}{k:aj}{e:Env}{d:List Deferred}{h:Heap}{dst:Option Tmp}{op:Op}{ty:TypeId}{pos:String}{after:Array Edge}{i x y z:Nat}{a b c:PB}
def GJ (P:Program)(m:Nat)(all:List Oper)(rest:PB)(k:aj)(dst:Option Tmp)(e:Env)(d:List Deferred):Value->Heap->Prop:=fun v h=>bV P m all rest k (aU e dst v) d h
theorem VZ {v:Value}:GJ P m all rest k dst e d v h=bV P m all rest k (aU e dst v) d h:=eqi rfl
def RA (P:Program)(m:Nat)(o:Option Oper)(all:List Oper)(rest:PB)(k:aj)(e:Env)(d:List Deferred)(h:Heap):Prop:=
 match o with
 |some o=>ax o.guard all e (fun e=>ldB P m o.op e h (fun v h'=>GJ P m all rest k o.dst e d v h')) (fun e=>bV P m all rest k (aU e o.dst undef) d h)
 |none=>False
def Py (P:Program)(m:Nat)(o:Option Oper)(all:List Oper)(rest:PB)(k:aj)(e:Env)(d:List Deferred)(h:Heap):Prop:=
 match o with
 |some o=>ax o.guard all e (fun e=>fK P o.op e h (fun v h'=>GJ P m all rest k o.dst e d v h')) (fun e=>bV P m all rest k (aU e o.dst undef) d h)
 |none=>False
theorem Qs:bV P m all .fin k e d h=k .normal e d h:=eqi rfl
theorem MR:bV P m all (.load i rest) k e d h=RA P m all[i]? all rest k e d h:=by simp only[bV,RA,GJ]
theorem Kt:bV P m all (.pure i rest) k e d h=Py P m all[i]? all rest k e d h:=by simp only[bV,Py,GJ]
def gB (v:Value)(s:Tmp)(want:Bool)(F:Env->Prop)(all:List Oper)(P:Program)(m:Nat)(rest:PB)(k:aj)(dst:Option Tmp)(e:Env)(d:List Deferred)(h:Heap):Prop:=
 au v (fun b=>if b=want then F (e.set s (.bool b))else bV P m all rest k (aU (e.set s (.bool b)) dst undef) d h) (bV P m all rest k (aU e dst undef) d h)
def gBo (s:Option Tmp)(want:Bool)(F:Env->Prop)(all:List Oper)(P:Program)(m:Nat)(rest:PB)(k:aj)(dst:Option Tmp)(e:Env)(d:List Deferred)(h:Heap):Prop:=
 match s with|some s=>gB (e.getD s undef) s want F all P m rest k dst e d h|none=>bV P m all rest k (aU e dst undef) d h
theorem UL {t:TypeId}{x:Operand}{K:Value->Heap->Prop}:ldB P m (.load t x) e h K=(WM m (ev e x)/\fU P t (ev e x) h K):=eqi rfl
theorem Uf {b o:Nat}{s:_}:WM m (.pointer (some ⟨b,o,s⟩))=(b<m):=eqi rfl
theorem Lv:RA P m (some ⟨dst,op,ty,pos,after,none⟩) all rest k e d h=ldB P m op e h (GJ P m all rest k dst e d):=by simp only[RA,ax]
theorem NI:Py P m (some ⟨dst,op,ty,pos,after,none⟩) all rest k e d h=fK P op e h (GJ P m all rest k dst e d):=by simp only[Py,ax]
theorem LZ {j:Nat}{want:Bool}:RA P m (some ⟨dst,op,ty,pos,after,some (j,want)⟩) all rest k e d h=gBo (fQ all j) want (fun e=>ldB P m op e h (GJ P m all rest k dst e d)) all P m rest k dst e d h:=by
 simp only[RA,ax,gBo];cases fQ all j<;>rfl
theorem NN {j:Nat}{want:Bool}:Py P m (some ⟨dst,op,ty,pos,after,some (j,want)⟩) all rest k e d h=gBo (fQ all j) want (fun e=>fK P op e h (GJ P m all rest k dst e d)) all P m rest k dst e d h:=by
 simp only[Py,ax,gBo];cases fQ all j<;>rfl
theorem Tj {s:Tmp}{want:Bool}{F:Env->Prop}:gBo (some s) want F all P m rest k dst e d h=gB (e.getD s undef) s want F all P m rest k dst e d h:=eqi rfl
theorem zAX {s:Tmp}{F:Env->Prop}:gB (.bool true) s true F all P m rest k dst e d h=F (e.set s (.bool true)):=by simp[gB,au]
theorem zAd {s:Tmp}{F:Env->Prop}:gB (.bool false) s false F all P m rest k dst e d h=F (e.set s (.bool false)):=by simp[gB,au]
theorem zAP {s:Tmp}{F:Env->Prop}:gB (.bool true) s false F all P m rest k dst e d h=bV P m all rest k (aU (e.set s (.bool true)) dst undef) d h:=by simp[gB,au]
theorem zA3 {s:Tmp}{F:Env->Prop}:gB (.bool false) s true F all P m rest k dst e d h=bV P m all rest k (aU (e.set s (.bool false)) dst undef) d h:=by simp[gB,au]
theorem U0 {s:Tmp}{w:Bool}{vs:Array Value}{F:Env->Prop}:gB (.tuple vs) s w F all P m rest k dst e d h=bV P m all rest k (aU e dst undef) d h:=by simp[gB,au]
theorem ZG (H:stO P all all[i]? e h (fun e h''=>RB m h h''/\bV P m all rest k e d h'')):bV P m all (.keep i rest) k e d h:=H
theorem YG (A:stO P all all[x]? e h (fun e h''=>RB m h h''/\bV P m all a k e d h''))(B:stO P all all[y]? e h (fun e h''=>RB m h h''/\bV P m all b k e d h'')):bV P m all (.fork x y a b) k e d h:=⟨A,B⟩
set_option linter.defProp false
def XD:=And.intro (And.intro (And.intro @Qs (And.intro @MR @Kt)) (And.intro (And.intro @Lv @NI) (And.intro @LZ @NN)))
 (And.intro (And.intro (And.intro @Tj @VZ) (And.intro @UL @Uf)) (And.intro (And.intro @zAX @zAd) (And.intro @zAP (And.intro @zA3 @U0))))
end XD
end Go.Eng
end
section
namespace Go.Proofs.YtejmkibjpaoahaaGreatDoor
open Go Go.Proofs Go.Eng Go.Run Tab
section
variable {L:Nat->Int}{day:Int}{es:List En}{i k:Nat}{l:List Nat}{m:Nat}{o:List Nat}{s w:Nat}{xs:List Int}
set_option maxRecDepth 100000
set_option linter.unusedSimpArgs false
set_option linter.unusedVariables false
set_option linter.defProp false
set_option maxHeartbeats 4000000
def fS (L:Nat->Int)(s i:Nat):Int:=if s.testBit i then L i else 0
def valS (L:Nat->Int)(s:Nat)(l:List Nat):Option Value:=if l.any (fun i=>s.testBit i)then some (.int .i64 (LS.lsum (fS L s) l))else none
theorem lsum_none {L:Nat->Int}{s:Nat}:∀{l:List Nat},l.any (fun i=>s.testBit i)=false->LS.lsum (fS L s) l=0
 |[],_=>rfl
 |x::l,h=>by
  rw[List.any_cons,Bool.or_eq_false_iff]at h;rw[LS.lsum,lsum_none h.2,fS,h.1];rfl
theorem valS_get:(valS L s l).getD (.int .i64 0)= .int .i64 (LS.lsum (fS L s) l):=by
 unfold valS;split
 .rfl
 .rename_i h;rw[lsum_none (by simpa using h)];rfl
theorem valS_yes (h:s.testBit i=true):valS L s (l++[i])=some (.int .i64 (LS.lsum (fS L s) l+L i)):=by
 unfold valS;rw[if_pos (by simp[h]),LS.lsum_append];congr 2;simp[LS.lsum,fS,h]
theorem valS_no (h:s.testBit i=false):valS L s (l++[i])=valS L s l:=by
 unfold valS;rw[LS.lsum_append,List.any_append];simp[LS.lsum,fS,h]
structure EvI (L:Nat->Int)(o:List Nat)(m j:Nat)(es:List (Nat×Value×Nat)):Prop where
 nd:(es.map (·.1)).Nodup
 get:∀s,fZ s es=if s<m then valS L s o else if s=m then valS L s (o.take j)else none
theorem EvI.start:EvI L o 0 0 []:=⟨by simp,fun s=>by
 rw[if_neg (by omega)];split<;>rfl⟩
theorem EvI.next {es:List (Nat×Value×Nat)}(E:EvI L o m o.length es):EvI L o (m+1) 0 es:=⟨E.nd,fun s=>by
 rw[E.get,List.take_zero,List.take_length];by_cases h1:s<m
 .rw[if_pos h1,if_pos (by omega)]
 .rw[if_neg h1];by_cases h2:s=m
  .subst h2;rw[if_pos rfl,if_pos (by omega)]
  .rw[if_neg h2,if_neg (by omega)];split<;>rfl⟩
theorem EvI.skip {j:Nat}{es:List (Nat×Value×Nat)}(E:EvI L o m j es)(hj:j<o.length)(h:m.testBit (o.getD j 0)=false):EvI L o m (j+1) es:=⟨E.nd,fun s=>by
 rw[E.get];by_cases h2:s=m
 .subst h2;have e:o.take (j+1)=o.take j++[o.getD j 0]:=by
   rw[List.take_add_one,List.getElem?_eq_getElem hj,List.getD_eq_getElem?_getD,List.getElem?_eq_getElem hj];rfl
  rw[e,valS_no h]
 .rw[if_neg h2,if_neg h2]⟩
theorem EvI.add {j c1 c2:Nat}{v:Value}{es:List (Nat×Value×Nat)}(E:EvI L o m j es)(hj:j<o.length)(h:m.testBit (o.getD j 0)=true):EvI L o m (j+1) (fF m (.int .i64 (LS.lsum (fS L m) (o.take j)+L (o.getD j 0))) c2 (fF m v c1 es)):=⟨Zg (Zg E.nd),fun s=>by
 rw[UD,UD,E.get];have e:o.take (j+1)=o.take j++[o.getD j 0]:=by
  rw[List.take_add_one,List.getElem?_eq_getElem hj,List.getD_eq_getElem?_getD,List.getElem?_eq_getElem hj];rfl
 by_cases h2:s=m
 .subst h2;rw[if_pos rfl,if_neg (by omega),if_pos rfl,e,valS_yes h]
 .rw[if_neg h2,if_neg h2,if_neg h2,if_neg h2]⟩
theorem lsum_bound {F:Nat->Int}{B:Int}(hB:0<=B):∀{l:List Nat},(∀i∈l,-B<=F i/\F i<=B)-> -(B*(l.length:Int))<=LS.lsum F l/\LS.lsum F l<=B*(l.length:Int)
 |[],_=>by simp[LS.lsum]
 |x::l,h=>by
  have h1:=h x List.mem_cons_self;have h2:=lsum_bound hB (l:=l) fun i hi=>h i (List.mem_cons_of_mem _ hi)
  rw[LS.lsum,List.length_cons];have e:B*((l.length+1:Nat):Int)=B*(l.length:Int)+B:=by
   rw[Int.natCast_add,Int.mul_add];simp
  rw[e];omega
theorem lsum_filter {F:Nat->Int}{p:Nat->Bool}:∀{l:List Nat},(∀i∈l,p i=false->F i=0)->LS.lsum F (l.filter p)=LS.lsum F l
 |[],_=>rfl
 |x::l,h=>by
  have ih:=lsum_filter (F:=F) (p:=p) (l:=l) fun i hi=>h i (List.mem_cons_of_mem _ hi)
  cases hp:p x with
  |true=>rw[List.filter_cons_of_pos hp,LS.lsum,LS.lsum,ih]
  |false=>rw[List.filter_cons_of_neg (by rw[hp];decide),ih,LS.lsum,h x List.mem_cons_self hp];omega
theorem delA_memG {a:Nat}:∀{es:List (Nat×Value×Nat)},(es.map (·.1)).Nodup->∀{x},x∈lW a es<->x∈es/\x.1≠a
 |[],_,x=>by simp[lW]
 |y::es,hn,x=>by
  rw[List.map_cons,List.nodup_cons]at hn;have ih:=delA_memG (a:=a) hn.2 (x:=x);by_cases hy:a=y.1
  .simp only[lW,hy,if_true,List.mem_cons];constructor
   .intro h;exact⟨.inr h,fun e=>hn.1 (by rw[<-e];exact List.mem_map.2 ⟨x,h,rfl⟩)⟩
   .rintro⟨rfl|h,hne⟩
    .exact absurd rfl hne
    .exact h
  .simp only[lW,hy,if_false,List.mem_cons,ih];constructor
   .rintro(rfl|⟨h1,h2⟩)
    .exact⟨.inl rfl,fun e=>hy e.symm⟩
    .exact⟨.inr h1,h2⟩
   .rintro⟨rfl|h,hne⟩
    .exact .inl rfl
    .exact .inr ⟨h,hne⟩
theorem sm_amt {A:Nat}{e:En}(hf:0<=e.f/\e.f<A)(ht:0<=e.t/\e.t<A):LS.sm (fun i=>amt day (i:Int) e) A=0:=by
 by_cases hd:e.d<=day
 .have e1:∀i,i<A->amt day (i:Int) e=(if i=e.t.toNat then e.a else 0)+(if i=e.f.toNat then-e.a else 0):=fun i _=>by
   have q1:(e.t=(i:Int))=(i=e.t.toNat):=propext (by omega);have q2:(e.f=(i:Int))=(i=e.f.toNat):=propext (by omega);unfold amt;rw[if_pos hd];simp only[q1,q2];split<;>split<;>omega
  rw[LS.sm_congr e1,LS.sm_add,LS.sm_one,LS.sm_one,if_pos (by omega),if_pos (by omega)];omega
 .exact LS.sm_zero fun i _=>by unfold amt;rw[if_neg hd]
theorem sm_bal {A:Nat}{day:Int}:∀{es:List En},(∀e∈es,(0<=e.f/\e.f<A)/\0<=e.t/\e.t<A)->LS.sm (fun i=>balA es day (i:Int)) A=0
 |[],_=>LS.sm_zero fun i _=>rfl
 |e::es,h=>by
  have ih:=sm_bal (day:=day) (es:=es) fun x hx=>h x (List.mem_cons_of_mem _ hx)
  have h1:=h e List.mem_cons_self;rw[LS.sm_congr (g:=fun i=>amt day (i:Int) e+balA es day (i:Int)) fun i _=>balA_cons e es day i,LS.sm_add,ih,sm_amt h1.1 h1.2];rfl
theorem balA_far (hok:∀e∈es,okE k e)(hi:k<=i):balA es day (i:Int)=0:=by
 induction es with
 |nil=>rfl
 |cons e es ih=>
  have h1:=hok e List.mem_cons_self;rw[balA_cons,ih fun x hx=>hok x (List.mem_cons_of_mem _ hx)];unfold amt;have a1:=h1.2.1;have a2:=h1.2.2.1;rw[if_neg (show¬e.t=(i:Int) by omega),if_neg (show¬e.f=(i:Int) by omega)];split<;>rfl
theorem zero_fS {l:Nat->Int}(hl:l=fun i=>xs.getD i 0):LS.zero l 8 s<->LS.lsum (fS l s) (opL8 xs 8)=0:=by
 have e:LS.lsum (fS l s) (opL8 xs 8)=LS.lsum (fS l s) (List.range 8):=lsum_filter fun i _ hp=>by
  have h0:xs.getD i 0=0:=by simpa using hp
  unfold fS;rw[hl];show(if s.testBit i then xs.getD i 0 else 0)=0;rw[h0];split<;>rfl
 rw[e,<-LS.sm_lsum];rfl
theorem opL8_mem:i∈opL8 xs 8<->i<8/\xs.getD i 0≠0:=by
 unfold opL8;rw[List.mem_filter,List.mem_range];simp
theorem even_iff {eZ:List (Nat×Value×Nat)}(hxs:xs=bals 8 es day)(hok:∀e∈es,okE k e)(hm:m=2^k)(hbits:∀i,w.testBit i=true<->i∈opL8 xs 8)(hZ:∀s,(fZ s eZ).isSome=true<->s<m/\(opL8 xs 8).any (fun i=>s.testBit i)=true/\LS.lsum (fS (fun i=>xs.getD i 0) s) (opL8 xs 8)=0)(s:Nat)(h0:s≠0)(hw:s&&&w=s):(fZ s eZ).isSome=true<->LS.zero (fun i=>xs.getD i 0) 8 s:=by
 have hb:∀i,s.testBit i=true->i∈opL8 xs 8:=fun i hi=>by
  rw[<-hw,Nat.testBit_and,Bool.and_eq_true]at hi;exact(hbits i).1 hi.2
 have hk:∀i,s.testBit i=true->i<k:=fun i hi=>by
  obtain⟨h1,h2⟩:=opL8_mem.1 (hb i hi);refine Nat.lt_of_not_le fun hle=>h2 ?_
  rw[hxs,bals_get es day h1];exact balA_far hok hle
 rw[hZ,<-zero_fS rfl];refine⟨fun h=>h.2.2,fun h=>⟨?_,?_,h⟩⟩
 .rw[hm];refine Nat.lt_pow_two_of_testBit s fun i hi=> ?_
  cases hc:s.testBit i with
  |false=>rfl
  |true=>have:=hk i hc;omega
 .obtain⟨i,hi⟩:=Nat.exists_testBit_of_ne_zero h0;exact List.any_eq_true.2 ⟨i,hb i hi,hi⟩
theorem all_zero (hxs:xs=bals 8 es day)(hok:∀e∈es,okE k e)(hk:k<=8)(hbits:∀i,w.testBit i=true<->i∈opL8 xs 8):LS.zero (fun i=>xs.getD i 0) 8 w:=by
 have e:∀i,i<8->(if w.testBit i then xs.getD i 0 else 0)=balA es day (i:Int):=fun i hi=>by
  split
  .rw[hxs,bals_get es day hi]
  .rename_i h;have h1:¬(i<8/\xs.getD i 0≠0):=fun hh=>h ((hbits i).2 (opL8_mem.2 hh))
   have h2:xs.getD i 0=0:=by
    refine Classical.byContradiction fun hh=>h1 ⟨hi,hh⟩
   rw[hxs,bals_get es day hi]at h2;exact h2.symm
 unfold LS.zero;rw[LS.sm_congr e];exact sm_bal fun x hx=>by
  have h1:=hok x hx;have a1:=h1.2.1;have a2:=h1.2.2.1;omega
theorem all_msk (hxs:xs=bals 8 es day)(hbits:∀i,w.testBit i=true<->i∈opL8 xs 8):w=LS.msk (LS.opn (fun i=>xs.getD i 0)) 8:=by
 apply Nat.eq_of_testBit_eq;intro i;rw[LS.msk_bit];have h1:=(hbits i).trans opL8_mem;unfold LS.opn;cases hc:w.testBit i with
 |true=>
  obtain⟨h2,h3⟩:=h1.1 hc;show true=(decide (i<8)&& !decide (xs.getD i 0=0));rw[decide_eq_true h2,decide_eq_false h3];rfl
 |false=>
  have h2:¬(i<8/\xs.getD i 0≠0):=fun hh=>by rw[h1.2 hh]at hc;cases hc
  show false=(decide (i<8)&& !decide (xs.getD i 0=0));by_cases h3:i<8
  .have h4:xs.getD i 0=0:=Classical.byContradiction fun hh=>h2 ⟨h3,hh⟩
   rw[decide_eq_true h4];simp
  .rw[decide_eq_false h3];rfl
end
end Go.Proofs.YtejmkibjpaoahaaGreatDoor
end
section
namespace Go.Proofs.YtejmkibjpaoahaaGreatDoor
open Go Go.Proofs Go.Eng Go.Run Tab
section
variable {G:List (Hd×Nat)}{a:Option Addr}{cap:Nat}{cur:Array Value}{gb:Nat}{h h':Eng.Heap}{k len m:Nat}
set_option maxRecDepth 100000
set_option linter.unusedSimpArgs false
set_option linter.unusedVariables false
set_option linter.defProp false
set_option maxHeartbeats 4000000
set_option linter.defProp false
def YtejmkibjpaoahaaGreatDoorGIFs111:=(And.intro @Tryz.underlying3 (And.intro @Tryz.underlying71 @Tryz.underlying242))
def YtejmkibjpaoahaaGreatDoorGIFs169:=(And.intro (And.intro @agg29 @by29) (And.intro @inf29 (And.intro @sz29 @Tryz.underlying71)))
def YtejmkibjpaoahaaGreatDoorGIFs238:=(And.intro (And.intro @agg29 @by29) (And.intro @inf29 (And.intro @sz29 @Tryz.underlying71)))
theorem app73 {er:Env}{ty:TypeId}{m0:Nat}{x y:Operand}{b:Option Addr}{c:Nat}{T U:List Hd}{K:Value->Eng.Heap->Prop}(hx:ev er x= .slice a len cap)(hy:ev er y= .slice b m c)(O:iV m0 h 29 1 a len cap (hdsV T))(h0h:m0<=h.size)(I:Row h b (hdsV U))(hm:m=U.length)(hb:len+m<=1000)(H:∀a' cap' h',iV m0 h' 29 1 a' (len+m) cap' (hdsV (T++U))->App h h' a a'->K (.slice a' (len+m) cap') h'):aI Tryz.prog (.call ⟨.builtin .append,#[x,y],#[71,71]⟩) ty er h K:=
 WZ Tryz.underlying71 Tryz.underlying71 inf29 sz29 zero29 (by rfl) hx hy O h0h I (by rw[hdsV_length];omega) (fun u hu=>by
  obtain⟨x,_,rfl⟩:=List.mem_map.1 hu;rfl) (by omega) (by rw[by29];omega) fun a' cap' h' O' A'=>H a' cap' h' (by
   have e:hdsV T++hdsV U=hdsV (T++U):=by simp[hdsV]
   rw[<-e];exact O') A'
theorem ownI_beside {m2:Nat}{el el2:TypeId}{s2:Nat}{x x':Option Addr}{len2 cap2:Nat}{vs:List Int}{ws:List Value}(O:eG m h el a len cap vs)(A:App h h' x x')(P:iV m2 h el2 s2 x len2 cap2 ws)(hne:el≠el2):eG m h' el a len cap vs:=
 O.keep fun p hp=>A.old _ (O.lt hp).1 fun q hq e=>by
  rcases O.ok with⟨h1,_⟩|⟨g,cur,h1,h2,h3,_⟩
  .rw[h1]at hp;cases hp
  rcases P.ok with⟨k1,_⟩|⟨g',cur',k1,k2,k3,_⟩
  .rw[k1]at hq;cases hq
  rw[h1]at hp;rw[k1]at hq;cases hp;cases hq;have e:g'=g:=e;rw[e,h3]at k3;cases k3;exact hne rfl
def acc (p k:Nat):List Nat:=(List.range k).filter fun i=>p.testBit i
theorem acc_next (p k:Nat):acc p (k+1)=acc p k++if p.testBit k then[k]else[]:=by
 unfold acc;rw[List.range_succ,List.filter_append];congr 1;by_cases h:p.testBit k=true
 .rw[if_pos h,List.filter_cons_of_pos h];rfl
 .rw[if_neg h,List.filter_cons_of_neg h];rfl
theorem acc_le (p k:Nat):(acc p k).length<=k:=by
 unfold acc;have:=List.length_filter_le (fun i=>p.testBit i) (List.range k);rw[List.length_range]at this;exact this
theorem acc_mem {p i:Nat}:i∈acc p k<->i<k/\p.testBit i=true:=by
 unfold acc;rw[List.mem_filter,List.mem_range]
theorem pt_and {z:Nat->Prop}:∀{ps:List Nat} {s p:Nat},LS.Pt z s ps->p∈ps->p&&&s=p
 |q::ps,s,p,h,hp=>by
  obtain⟨r,h1,h2,h3,h4,h5⟩:=h;rcases List.mem_cons.1 hp with rfl|hp
  .apply Nat.eq_of_testBit_eq;intro j;rw[h1,Nat.testBit_and,Nat.testBit_or];cases p.testBit j<;>simp
  .have ih:=pt_and h5 hp;apply Nat.eq_of_testBit_eq;intro j;have h6:=congrArg (fun x=>x.testBit j) ih;simp only[Nat.testBit_and]at h6;rw[h1,Nat.testBit_and,Nat.testBit_or];cases h7:p.testBit j
   .simp
   .rw[h7,Bool.true_and]at h6;rw[h6];simp
theorem pt_ne {z:Nat->Prop}:∀{ps:List Nat} {s p:Nat},LS.Pt z s ps->p∈ps->p≠0/\z p
 |q::ps,s,p,h,hp=>by
  obtain⟨r,h1,h2,h3,h4,h5⟩:=h;rcases List.mem_cons.1 hp with rfl|hp
  .exact⟨h4,h3⟩
  .exact pt_ne h5 hp
def Bld (k:Nat)(h:Eng.Heap)(G:List (Hd×Nat)):Prop:=∀g∈G,g.1.2.1=(acc g.2 k).length/\eG 0 h 3 g.1.1 g.1.2.1 g.1.2.2 (nz (acc g.2 k))
theorem Bld.ext (B:Bld k h G)(x:Ext h h'):Bld k h' G:=fun g hg=>⟨(B g hg).1,(B g hg).2.ext x⟩
theorem perm_lift {α β:Type}{f:α->β}{T S:List β}(p:T.Perm S):∀{G:List α},G.map f=S->∃G':List α,G'.Perm G/\G'.map f=T:=by
 induction p with
 |nil=>intro G h;exact⟨G,.refl _,h⟩
 |cons x p ih=>
  intro G h
  match G,h with
  |g::G,h=>
   rw[List.map_cons]at h;injection h with h1 h2
   obtain⟨G',p',e⟩:=ih h2;exact⟨g::G',p'.cons g,by rw[List.map_cons,h1,e]⟩
 |swap x y l=>
  intro G h
  match G,h with
  |g::g'::G,h=>
   rw[List.map_cons,List.map_cons]at h;injection h with h1 h2
   injection h2 with h2 h3
   exact⟨g'::g::G,.swap _ _ _,by rw[List.map_cons,List.map_cons,h1,h2,h3]⟩
 |trans p q ihp ihq=>
  intro G h;obtain⟨G1,p1,e1⟩:=ihq h;obtain⟨G2,p2,e2⟩:=ihp e1;exact⟨G2,p2.trans p1,e2⟩
theorem acc_pos {p:Nat}(h0:p≠0)(hk:∀i,p.testBit i=true->i<k):0<(acc p k).length:=by
 obtain⟨i,hi⟩:=Nat.exists_testBit_of_ne_zero h0;exact List.length_pos_of_mem (acc_mem.2 ⟨hk i hi,hi⟩)
theorem acc_or {p r:Nat}(hd:p&&&r=0):∀n,(acc (p|||r) n).length=(acc p n).length+(acc r n).length
 |0=>rfl
 |n+1=>by
  have ih:=acc_or hd n;have h1:=LS.apart_bit hd n;rw[acc_next,acc_next,acc_next,List.length_append,List.length_append,List.length_append,ih,Nat.testBit_or];cases h2:p.testBit n<;>cases h3:r.testBit n
  .simp
  .simp;omega
  .simp;omega
  .exact absurd ⟨h2,h3⟩ h1
theorem pt_len {z:Nat->Prop}{n:Nat}:∀{ps:List Nat} {s:Nat},LS.Pt z s ps->(∀i,s.testBit i=true->i<n)->ps.length<=(acc s n).length
 |[],s,_,_=>Nat.zero_le _
 |q::ps,s,h,hb=>by
  obtain⟨r,h1,h2,h3,h4,h5⟩:=h;have ih:=pt_len (n:=n) h5 fun i hi=>hb i (by rw[h1,Nat.testBit_or,hi,Bool.or_true])
  have hq:=acc_pos (k:=n) h4 fun i hi=>hb i (by rw[h1,Nat.testBit_or,hi,Bool.true_or])
  rw[h1,acc_or h2,List.length_cons];omega
theorem own_int_upd {k:Nat}{xs:List Int}(O:eG m h 3 a len cap xs)(hb:h[gb]? =some (.cells cur 29 (0,0)))(u:Upd h h' gb):eG m h' 3 a len cap xs:=
 O.keep fun p hp=>u.old _ fun e=>by
  rcases O.ok with⟨h1,_⟩|⟨g,c,h1,h2,h3,_⟩
  .rw[h1]at hp;cases hp
  rw[h1]at hp;cases hp;have e:g=gb:=e;rw[e,hb]at h3;cases h3
theorem Bld.upd (B:Bld k h G)(hb:h[gb]? =some (.cells cur 29 (0,0)))(u:Upd h h' gb):Bld k h' G:=fun g hg=>⟨(B g hg).1,own_int_upd (k:=k) (B g hg).2 hb u⟩
theorem bld_key {g:Hd×Nat}(B:Bld k h G)(hb:h[gb]? =some (.cells cur 29 (0,0)))(hg:g∈G)(hp:0<(acc g.2 k).length)(u:Upd h h' gb):jL h' (lg g.1.1 0)=some (.int .i64 ((acc g.2 k).getD 0 0:Nat)):=by
 have O:=own_int_upd (k:=k) (B g hg).2 hb u;have c:=O.ints.cell (j:=0) (by rw[nz_length];exact hp);rw[nz_getD]at c;exact c
theorem bld_some {g:Hd×Nat}(B:Bld k h G)(hg:g∈G)(hp:0<(acc g.2 k).length):0<g.1.2.1/\g.1.1.isSome=true:=by
 have h1:=B g hg;rw[<-h1.1]at hp;refine⟨hp,?_⟩;rcases h1.2.ok with⟨_,h2,_⟩|⟨g,c,h2,_⟩
 .omega
 .rw[h2];rfl
def keyH (h:Eng.Heap)(u:Hd):Int:=match jL h (lg u.1 0)with|some (.int _ x)=>x|_=>0
def GrpP (k:Nat)(l:Nat->Int)(h:Eng.Heap)(v:Value)(h':Eng.Heap):Prop:=(∃a n c G,v= .slice a n c/\G.length=n/\iV h.size h' 29 1 a n c (hdsV (G.map (·.1)))/\Bld k h' G/\G.Pairwise (fun x y=>(acc x.2 k).getD 0 0<=(acc y.2 k).getD 0 0)/\(∃ps,(G.map (·.2)).Perm ps/\LS.Pt (LS.zero l 8) (LS.msk (LS.opn l) 8) ps)/\LS.Most (LS.zero l 8) (LS.msk (LS.opn l) 8) n)/\Ext h h'
theorem ins184_nil (h:Eng.Heap):ak Tryz.prog 238 #[.slice none 0 0,.int .i64 0,.int .i64 0,.func (.func 112) #[] #[]] h (fun v h'=>h'=h):=by
 (refine Rm Tryz.func238 rfl bod238 ?_;simp only[Tryz.ntmps238,Tryz.results238,coreS,U1,splice,Value.cells,Value.oneCell',Nat.reduceAdd,Nat.reduceSub,Nat.reduceMul,Nat.reduceLeDiff,Int.reduceEq,Nat.reduceEqDiff,YtejmkibjpaoahaaGreatDoorGIFs238])
 refine⟨by rw[zBS];omega,?_⟩;refine zAi [8,9,12,13,14,15,16,17,18,19,20,21,22,23,24,25,26,27,28,29,30,31,32,33,34,35,36,37,38,39,40,41,42,43,44,45,46,47,48,49,50,51,52] (fun e h'=>h'=h/\e 8= .int .i64 1) (fun _ _=>0) ⟨rfl,rfl⟩ ?_;rintro e h' ⟨rfl,he4⟩;simp only[he4,show¬(1:Int)<0 by omega,decide_false,coreS,Value.cells,Value.oneCell',Nat.reduceAdd,Nat.reduceSub,Nat.reduceMul,Nat.reduceLeDiff,Int.reduceEq,Nat.reduceEqDiff,YtejmkibjpaoahaaGreatDoorGIFs238]
theorem pdq160_nil (rr:Int)(h:Eng.Heap):ak Tryz.prog 169 #[.slice none 0 0,.int .i64 0,.int .i64 0,.int .i64 rr,.func (.func 112) #[] #[]] h (fun v h'=>h'=h):=by
 (refine Rm Tryz.func169 rfl bod169 ?_;simp only[Tryz.ntmps169,Tryz.results169,coreS,U1,splice,Value.cells,Value.oneCell',Nat.reduceAdd,Nat.reduceSub,Nat.reduceMul,Nat.reduceLeDiff,Int.reduceEq,Nat.reduceEqDiff,YtejmkibjpaoahaaGreatDoorGIFs169])
 refine zAi [1,2,3,10,11,12,13,14,15,16,17,18,19,20,21,22,23,24,25,26,27,28,29,30,31,32,33,34,35,36,37,38,39,40,41,42,43,44,45,46,47,48,49,50,51,52,53,54,55,56,57,58,59,60,61,62,63,64,65,66,67,68,69,70,71,72,73,74,75,76,77,78,79,80,81,82,83,84,85,86,87,88,89,90,91,92,93,94,95,96,97,98,99,100,101,102,103,104,105,106,107,108,109,110,111,112,113,114,115,116,117,118,119,120,121,122,123,124,125,126,127,128,129,130,131,132,133,134,135,136,137,138,139,140,141,142,143,144,145,146,147] (fun e h'=>h'=h/\e 1= .int .i64 0/\e 2= .int .i64 0/\e 3= .int .i64 rr) (fun _ _=>0) ⟨rfl,rfl,rfl,rfl⟩ ?_;rintro e h' ⟨rfl,he1,he2,he3⟩;have t1:(0:Int)-0<=12:=by omega
 simp only[he1,he2,he3,t1,decide_true,coreS,Value.cells,Value.oneCell',Nat.reduceAdd,Nat.reduceSub,Nat.reduceMul,Nat.reduceLeDiff,Int.reduceEq,Nat.reduceEqDiff,YtejmkibjpaoahaaGreatDoorGIFs169];refine⟨by rw[zBS];omega,?_⟩;refine ak.mono (ins184_nil h') ?_;rintro v h1 hv;simp only[coreS,Value.cells,Value.oneCell',Nat.reduceAdd,Nat.reduceSub,Nat.reduceMul,Nat.reduceLeDiff,Int.reduceEq,Nat.reduceEqDiff,YtejmkibjpaoahaaGreatDoorGIFs169];exact hv
theorem sortFunc128_nil (h:Eng.Heap):ak Tryz.prog 111 #[.slice none 0 0,.func (.func 112) #[] #[]] h (fun v h'=>h'=h):=by
 (refine Rm Tryz.func111 rfl bod111 ?_;simp only[Tryz.ntmps111,Tryz.results111,coreS,U1,splice,Value.cells,Value.oneCell',Nat.reduceAdd,Nat.reduceSub,Nat.reduceMul,Nat.reduceLeDiff,Int.reduceEq,Nat.reduceEqDiff,YtejmkibjpaoahaaGreatDoorGIFs111])
 refine⟨by rw[zBY];omega,?_⟩;refine ak.mono (len161 0 (by omega) h) ?_;rintro v h1 ⟨⟨r,rfl⟩,rfl⟩;simp only[coreS,Value.cells,Value.oneCell',Nat.reduceAdd,Nat.reduceSub,Nat.reduceMul,Nat.reduceLeDiff,Int.reduceEq,Nat.reduceEqDiff,YtejmkibjpaoahaaGreatDoorGIFs111];refine ak.mono (pdq160_nil r h1) ?_;rintro v h2 hv;simp only[coreS,Value.cells,Value.oneCell',Nat.reduceAdd,Nat.reduceSub,Nat.reduceMul,Nat.reduceLeDiff,Int.reduceEq,Nat.reduceEqDiff,YtejmkibjpaoahaaGreatDoorGIFs111];exact hv
end
end Go.Proofs.YtejmkibjpaoahaaGreatDoor
end
