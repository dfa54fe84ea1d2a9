/- Lists turned round, and which of them is the least: plain laws. No condition. -/
import Derived.Test.YtljjlhbbcjjmlaaGreatDoorTab
namespace Go.Proofs.YtljjlhbbcjjmlaaGreatDoor.RL
set_option linter.unusedSimpArgs false
set_option linter.unusedVariables false
def rotL (l:List Int)(k:Nat):List Int:=l.drop k++l.take k
theorem rotL_length (l:List Int)(k:Nat)(h:k<=l.length):(rotL l k).length=l.length:=by simp[rotL];omega
theorem rotL_get (l:List Int)(k i:Nat)(h:k<=l.length)(hi:i<l.length):(rotL l k).getD i 0=l.getD ((i+k)% l.length) 0:=by
 unfold rotL;simp only[List.getD_eq_getElem?_getD];by_cases h1:i<l.length-k
 .rw[List.getElem?_append_left (by simp;omega),List.getElem?_drop,Nat.mod_eq_of_lt (by omega),Nat.add_comm]
 .rw[List.getElem?_append_right (by simp;omega),List.length_drop,List.getElem?_take_of_lt (by omega)];have:(i+k)% l.length=i-(l.length-k):=by
   rw[show i+k=(i-(l.length-k))+l.length by omega,Nat.add_mod_right,Nat.mod_eq_of_lt (by omega)]
  rw[this]
theorem ext_getD {a b:List Int}(hl:a.length=b.length)(h:∀i,i<a.length->a.getD i 0=b.getD i 0):a=b:=by
 apply List.ext_getElem hl;intro i h1 h2;have:=h i h1;simpa[List.getD,List.getElem?_eq_getElem h1,List.getElem?_eq_getElem h2]using this
theorem rotL_rotL (l:List Int)(j k:Nat)(hj:j<=l.length)(hk:k<=l.length):rotL (rotL l j) k=rotL l ((j+k)% l.length):=by
 by_cases h0:l.length=0
 .have:l=[]:=List.length_eq_zero_iff.1 h0;subst this;simp[rotL]
 .have hm:(j+k)% l.length<=l.length:=Nat.le_of_lt (Nat.mod_lt _ (by omega));apply ext_getD
  .rw[rotL_length _ _ (by rw[rotL_length _ _ hj];exact hk),rotL_length _ _ hj,rotL_length _ _ hm]
  .intro i hi;rw[rotL_length _ _ (by rw[rotL_length _ _ hj];exact hk),rotL_length _ _ hj]at hi;rw[rotL_get _ _ _ (by rw[rotL_length _ _ hj];exact hk) (by rw[rotL_length _ _ hj];exact hi),rotL_length _ _ hj,rotL_get _ _ _ hj (Nat.mod_lt _ (by omega)),rotL_get _ _ _ hm hi];congr 1;rw[Nat.add_mod i ((j+k)% l.length),Nat.mod_mod,<-Nat.add_mod,Nat.add_mod ((i+k)% l.length) j,Nat.mod_mod,<-Nat.add_mod];congr 1;omega
def cmpL:List Int->List Int->Int
 |[],[]=>0
 |[],_::_=> -1
 |_::_,[]=>1
 |a::l,b::m=>if a<b then-1 else if b<a then 1 else cmpL l m
theorem cmpL_self:∀l,cmpL l l=0
 |[]=>rfl
 |a::l=>by simp only[cmpL];rw[if_neg (by omega),if_neg (by omega),cmpL_self l]
theorem cmpL_anti:∀{a b:List Int},¬cmpL a b<0->¬cmpL b a<0->a=b
 |[],[],_,_=>rfl
 |[],_::_,h,_=>absurd (show(-1:Int)<0 by decide) h
 |_::_,[],_,h=>absurd (show(-1:Int)<0 by decide) h
 |a::l,b::m,h,k=>by
  simp only[cmpL]at h k;by_cases h1:a<b
  .rw[if_pos h1]at h;exact absurd (by decide) h
  .by_cases h2:b<a
   .rw[if_pos h2]at k;exact absurd (by decide) k
   .rw[if_neg h1,if_neg h2]at h;rw[if_neg h2,if_neg h1]at k;have:a=b:=by omega
    rw[this,cmpL_anti h k]
theorem cmpL_trans:∀{a b c:List Int},cmpL a b<0->cmpL b c<0->cmpL a c<0
 |[],[],_,h,_=>absurd h (by decide)
 |[],_::_,[],_,h=>absurd (show(1:Int)<0 from h) (by decide)
 |[],_::_,_::_,_,_=>by show(-1:Int)<0;decide
 |_::_,[],_,h,_=>absurd (show(1:Int)<0 from h) (by decide)
 |_::_,_::_,[],_,h=>absurd (show(1:Int)<0 from h) (by decide)
 |a::l,b::m,c::n,h,k=>by
  simp only[cmpL]at h k ⊢;by_cases h1:a<b
  .by_cases h2:b<c
   .rw[if_pos (by omega)];decide
   .rw[if_neg h2]at k;by_cases h3:c<b
    .rw[if_pos h3]at k;exact absurd k (by decide)
    .rw[if_pos (by omega)];decide
  .rw[if_neg h1]at h;by_cases h2:b<a
   .rw[if_pos h2]at h;exact absurd h (by decide)
   .rw[if_neg h2]at h;by_cases h3:b<c
    .rw[if_pos (by omega)];decide
    .rw[if_neg h3]at k;by_cases h4:c<b
     .rw[if_pos h4]at k;exact absurd k (by decide)
     .rw[if_neg h4]at k;rw[if_neg (by omega),if_neg (by omega)];exact cmpL_trans h k
def Low (l:List Int)(r:Nat):Prop:=r<l.length/\∀k,k<l.length->¬cmpL (rotL l k) (rotL l r)<0
theorem low_turned {l m:List Int}{s r q:Nat}(hs:s<l.length)(hm:m=rotL l s)(h1:Low l r)(h2:Low m q):rotL l r=rotL m q:=by
 have hml:m.length=l.length:=by rw[hm,rotL_length _ _ (by omega)]
 have e1:∀k,k<l.length->rotL m k=rotL l ((s+k)% l.length):=fun k hk=>by rw[hm,rotL_rotL _ _ _ (by omega) (by omega)]
 have e2:∀k,k<l.length->rotL l k=rotL m ((l.length-s+k)% l.length):=fun k hk=>by
  rw[e1 _ (Nat.mod_lt _ (by omega))];congr 1;rw[Nat.add_mod,Nat.mod_mod,<-Nat.add_mod,show s+(l.length-s+k)=k+l.length by omega,Nat.add_mod_right,Nat.mod_eq_of_lt hk]
 apply cmpL_anti
 .rw[e2 r h1.1];exact h2.2 _ (by rw[hml];exact Nat.mod_lt _ (by omega))
 .have hq:=h2.1;rw[hml]at hq;rw[e1 q hq];exact h1.2 _ (Nat.mod_lt _ (by omega))
end Go.Proofs.YtljjlhbbcjjmlaaGreatDoor.RL
