/- Orders of codes that pass over some more shops at first; rims of their places: plain laws. No condition. -/
import Derived.Test.YtljjlhbbcjjmlaaGreatDoorRL
import Derived.Test.YtljjlhbbcjjmlaaGreatDoorTO
namespace Go.Proofs.YtljjlhbbcjjmlaaGreatDoor
open Go Go.Proofs RL
section
variable {c:Nat}{cs:List Nat}{n:Nat}{o1 o2:List Int}{s:Nat}
set_option linter.unusedSimpArgs false
set_option linter.unusedVariables false
theorem turned_map (f:Nat->Nat)(l:List Nat)(c:Nat):turned (l.map f) c=(turned l c).map f:=by simp[turned,List.map_drop,List.map_take]
theorem ordF_map (f:Nat->Nat):∀(cs l:List Nat),fits l.length cs->ordF (l.map f) cs=(ordF l cs).map f
 |[],l,_=>rfl
 |c::cs,l,h=>by
  rw[ordF,ordF,List.map_cons,turned_map,ordF_map f cs _ (by rw[turned_length h.1];exact h.2)];congr 1;have:=h.1;simp[List.getD,List.getElem?_eq_getElem this]
theorem turned_range {q:Nat}(hc:c<n)(hq:q<n-1):(turned (List.range n) c)[q]? =some ((c+1+q)% n):=by
 unfold turned;by_cases h1:q<n-(c+1)
 .rw[List.getElem?_append_left (by simp;omega),List.getElem?_drop,List.getElem?_range (by omega),Nat.mod_eq_of_lt (by omega)]
 .rw[List.getElem?_append_right (by simp;omega),List.length_drop,List.length_range,List.getElem?_take_of_lt (by omega),List.getElem?_range (by omega)];rw[show c+1+q=(q-(n-(c+1)))+n by omega,Nat.add_mod_right,Nat.mod_eq_of_lt (by omega)]
theorem turned_shift (hc:c<n):turned (List.range n) ((c+s)% n)=(turned (List.range n) c).map (fun x=>(x+s)% n):=by
 have hm:(c+s)% n<n:=Nat.mod_lt _ (by omega);have l1:(turned (List.range n) ((c+s)% n)).length=n-1:=by rw[turned_length (by simpa using hm),List.length_range]
 have l2:(turned (List.range n) c).length=n-1:=by rw[turned_length (by simpa using hc),List.length_range]
 apply List.ext_getElem?;intro q;rw[List.getElem?_map];by_cases hq:q<n-1
 .rw[turned_range hm hq,turned_range hc hq];simp only[Option.map_some,Option.some.injEq];rw[Nat.mod_add_mod,Nat.add_assoc,Nat.mod_add_mod];congr 1;omega
 .rw[List.getElem?_eq_none (by omega),List.getElem?_eq_none (by omega)];rfl
theorem ord_shift (hf:fits n (c::cs)):ordF (List.range n) ((c+s)% n::cs)=(ordF (List.range n) (c::cs)).map (fun x=>(x+s)% n):=by
 have hc:c<n:=hf.1;have hm:(c+s)% n<n:=Nat.mod_lt _ (by omega);have l2:(turned (List.range n) c).length=n-1:=by rw[turned_length (by simpa using hc),List.length_range]
 rw[ordF,ordF,List.map_cons,turned_shift hc,ordF_map _ _ _ (by rw[l2];exact hf.2)];congr 1;simp[List.getD,List.getElem?_range hm,List.getElem?_range hc]
theorem ordF_lt (n:Nat):∀(cs l:List Nat),fits l.length cs->(∀x∈l,x<n)->∀x∈ordF l cs,x<n
 |[],l,_,_,x,hx=>by simp[ordF]at hx
 |c::cs,l,h,hl,x,hx=>by
  rw[ordF,List.mem_cons]at hx;rcases hx with rfl|hx
  .have:=h.1;simp only[List.getD,List.getElem?_eq_getElem this,Option.getD_some];exact hl _ (List.getElem_mem this)
  .refine ordF_lt n cs _ (by rw[turned_length h.1];exact h.2) (fun y hy=> ?_) x hx;unfold turned at hy;rcases List.mem_append.1 hy with hy|hy
   .exact hl _ (List.mem_of_mem_drop hy)
   .exact hl _ (List.mem_of_mem_take hy)
def cdF (by':List Int)(n i:Nat):List Nat:=(List.range i).map fun j=>(by'.getD (j % by'.length) 0).toNat % (n-j)
theorem cdF_length (b:List Int)(n i:Nat):(cdF b n i).length=i:=by simp[cdF]
theorem cdF_next (b:List Int)(n i:Nat):cdF b n (i+1)=cdF b n i++[(b.getD (i % b.length) 0).toNat % (n-i)]:=by simp[cdF,List.range_succ]
theorem cdF_fits (b:List Int)(n:Nat):fits n (cdF b n n):=by
 refine fits_of _ _ fun i hi=> ?_
 rw[cdF_length]at hi;simp only[cdF,List.getD,List.getElem?_map,List.getElem?_range hi,Option.map_some,Option.getD_some];exact Nat.mod_lt _ (by omega)
theorem natL_zs (cs:List Nat):natL (zs cs)=cs:=by
 simp only[natL,zs,List.map_map]
 conv=>rhs;rw[<-List.map_id cs]
 apply List.map_congr_left;intro x hx;simp
theorem chkE_fits (h1:1<=n)(h12:n<=12)(hl:cs.length=n)(hf:fits n cs):VT n (zs cs)=0:=by
 unfold VT;rw[if_pos (by omega),if_neg (by rw[zs_length];omega),if_pos];rw[chkB_iff];intro i hi;rw[zs_length]at hi;rw[zs_get];have:=fits_get _ _ _ hf hi;omega
theorem ordZ_fits (h1:1<=n)(h12:n<=12)(hl:cs.length=n)(hf:fits n cs):ordZ n (zs cs)=zs (ordF (List.range n) cs):=by
 rw[ordZ,if_pos (chkE_fits h1 h12 hl hf),natL_zs,Int.toNat_natCast]
structure Two (n s:Nat)(o1 o2:List Int):Prop where
 l1:o1.length=n
 l2:o2.length=n
 eq:∀j,j<n->o2.getD ((j+s)% n) 0=o1.getD j 0
 b:∀x∈o1,0<=x/\x<=3
theorem Two.zero (hn:0<n):Two n s (List.replicate n 0) (List.replicate n 0):=by
 refine⟨by simp,by simp,fun j hj=> ?_,fun x hx=> ?_⟩
 .simp[List.getD,List.getElem?_replicate,hj,Nat.mod_lt (j+s) hn]
 .rw[List.mem_replicate]at hx;omega
theorem mod_inj {j k:Nat}(hj:j<n)(hk:k<n)(h:(j+s)% n=(k+s)% n):j=k:=by
 have:=rot_inj (a:=s) hj hk (by rw[Nat.add_comm s j,Nat.add_comm s k];exact h);exact this
theorem Two.set (T:Two n s o1 o2){a:Nat}{v:Int}(ha:a<n)(h0:0<=v)(h3:v<=3):Two n s (o1.set a v) (o2.set ((a+s)% n) v):=by
 refine⟨by simp[T.l1],by simp[T.l2],fun j hj=> ?_,fun x hx=> ?_⟩
 .have hm:(j+s)% n<n:=Nat.mod_lt _ (by omega);have l1:=T.l1;have l2:=T.l2;have e:=T.eq j hj;simp only[List.getD,List.getElem?_set]at e ⊢;by_cases hja:a=j
  .subst hja;simp[l1,l2,hj,hm]
  .have:¬(a+s)% n=(j+s)% n:=fun h=>hja (mod_inj ha hj h)
   rw[if_neg this,if_neg hja];exact e
 .rcases List.mem_or_eq_of_mem_set hx with h|rfl
  .exact T.b x h
  .exact⟨h0,h3⟩
theorem Two.rot (T:Two n s o1 o2)(hs:s<n):rotL o2 s=o1:=by
 have l2:=T.l2;apply ext_getD
 .rw[rotL_length _ _ (by omega),T.l1,l2]
 .intro i hi;rw[rotL_length _ _ (by omega)]at hi;rw[rotL_get _ _ _ (by omega) hi,l2];exact T.eq i (by omega)
theorem Two.rot2 (T:Two n s o1 o2)(hs:s<n):o2=rotL o1 ((n-s)% n):=by
 have l2:=T.l2;rw[<-T.rot hs,rotL_rotL _ _ _ (by omega) (by have:=Nat.mod_lt (n-s) (show 0<n by omega);omega),l2];have:(s+(n-s)% n)% n=0:=by
  rw[Nat.add_mod,Nat.mod_mod,<-Nat.add_mod,show s+(n-s)=n by omega,Nat.mod_self]
 rw[this];simp[rotL]
theorem Two.rim (T:Two n s o1 o2)(hs:s<n):∀x∈o2,0<=x/\x<=3:=by
 intro x hx;rw[T.rot2 hs]at hx;unfold rotL at hx;rcases List.mem_append.1 hx with h|h
 .exact T.b x (List.mem_of_mem_drop h)
 .exact T.b x (List.mem_of_mem_take h)
theorem count_rot (l:List Int)(k:Nat)(x:Int):(rotL l k).count x=l.count x:=by
 unfold rotL;rw[List.count_append,Nat.add_comm,<-List.count_append,List.take_append_drop]
end
end Go.Proofs.YtljjlhbbcjjmlaaGreatDoor
