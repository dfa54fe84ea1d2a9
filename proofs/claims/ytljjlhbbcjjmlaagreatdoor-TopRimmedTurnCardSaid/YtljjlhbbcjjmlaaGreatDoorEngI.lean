/- The engine: a drawn region in which two operations may come in either order; slices of structs copied, made longer by zeros. No condition. -/
import Derived.Test.YtljjlhbbcjjmlaaGreatDoorEngM
import Derived.Lib.AppendZerosOnto
import Derived.Lib.Overlaps
set_option linter.unusedVariables false
set_option linter.unusedSimpArgs false
namespace Go.Eng
open Go
attribute [local semireducible] aI iP gP lm WP
section fork
variable {P:Program}{l:Option Nat}{R:Heap->Heap->Prop}{G:Nat->Bool}
theorem CX {all:List Oper}{i:Nat}{o:Oper}{e:Env}{d:List Deferred}{w1:World}{Kx:Env->Heap->Prop}{Kf:Act->World->Prop}(hi:all[i]? =some o)(hg:o.guard=none)
 (H:opW P o.op o.type e w1.heap (fun v h''=>R w1.heap h''/\Kx (aU e o.dst v) h'')) (fin:∀e' w',Rest w1 w'->Kx e' w'.heap->Kf ⟨e'.toArray,d⟩ w'):
 opD P all.toArray i (fun a' w'=>(G i=true->R w1.heap w'.heap)/\Rest w1 w'/\Kf a' w') ⟨e.toArray,d⟩ w1:=by
 have hi':all.toArray[i]? =some o:=by simpa using hi
 unfold opD;simp only[hi'];have hw:Region.wanted o (yielded all.toArray e.toArray)=true:=by unfold Region.wanted;rw[hg]
 simp only[hw,if_true];have h1:=aM H;unfold aI at h1;refine⟨h1.1,?_⟩;have h2:=h1.2 w1 rfl;rw[dY,bW];have fin':∀v w',Rest w1 w'->(R w1.heap w'.heap/\Kx (aU e o.dst v) w'.heap)->(G i=true->R w1.heap w'.heap)/\Rest w1 w'/\Kf ((Act.mk e.toArray d).put o.dst v) w':=by
  intro v w' hr' hk;refine⟨fun _=>hk.1,hr',?_⟩;rw[ay];exact fin _ _ hr' hk.2
 unfold dQ at h2;unfold fH;split at h2
 .exact⟨fin' _ _ h2.2 h2.1,h2.2⟩
 .exact⟨fin' _ _ h2.2 h2.1,h2.2⟩
 .exact⟨h2.1,Calls.mono h2.2 fun x w'' ⟨v,hx,hv,hr''⟩=>⟨v,hx,fin' v w'' (h2.1.trans hr'') hv,hr''⟩⟩
 .exact⟨h2.1,RoundIn.mono h2.2 fun x w'' ⟨v,hx,hv,hr''⟩=>⟨v,hx,fin' v w'' (h2.1.trans hr'') hv,hr''⟩⟩
 .exact h2.elim
def Jh (P:Program)(R:Heap->Heap->Prop)(all:List Oper)(rs:List (Nat×Nat))(k:aj)(a b:Option Oper)(e:Env)(d:List Deferred)(h:Heap):Prop:=
 match a,b with
 |some a,some b=>opW P a.op a.type e h (fun v h1=>R h h1/\∀h2,R h1 h2->opW P b.op b.type (aU e a.dst v) h2 (fun u h3=>R h2 h3/\bF P R all rs k (aU (aU e a.dst v) b.dst u) d h3))
 |_,_=>False
def jg (P:Program)(R:Heap->Heap->Prop)(all:List Oper)(x y:Nat)(rs:List (Nat×Nat)):List (Nat×Nat)->aj->Env->List Deferred->Heap->Prop
 |[],k,e,d,h=>∀h',R h h'->Jh P R all rs k all[x]? all[y]? e d h'/\Jh P R all rs k all[y]? all[x]? e d h'
 |(i,0)::rest,k,e,d,h=>match all[i]? with
  |some o=>ax o.guard all e (fun e=>dK P R o.op o.type e h (fun v h'=>jg P R all x y rs rest k (aU e o.dst v) d h')) (fun e=>jg P R all x y rs rest k (aU e o.dst undef) d h)
  |none=>False
 |(i,3)::rest,k,e,d,h=>match all[i]? with
  |some o=>ax o.guard all e (fun e=>fK P o.op e h (fun v h'=>jg P R all x y rs rest k (aU e o.dst v) d h')) (fun e=>jg P R all x y rs rest k (aU e o.dst undef) d h)
  |none=>False
 |_::_,_,_,_,_=>False
def okF (G:Nat->Bool)(all:List Oper)(x y:Nat)(rs:List (Nat×Nat)):List (Nat×Nat)->Array Bool->Bool
 |[],listed=>(decide (Region.ready .any all.toArray listed=[x,y])&&(decide (Region.ready .any all.toArray (listed.setIfInBounds x true)=[y])&&(decide (Region.ready .any all.toArray (listed.setIfInBounds y true)=[x])&&(iZ G all rs ((listed.setIfInBounds x true).setIfInBounds y true)&&iZ G all rs ((listed.setIfInBounds y true).setIfInBounds x true)))))
 |(i,0)::rest,listed=>(Region.ready .any all.toArray listed).contains i&&vQ all listed i (blk all listed i all.length 0 [])&&
  ((List.range all.length).all fun j=>j==i||listed.getD j true||(blk all listed i all.length 0 []).contains j||(G j&&(match all[i]?,all[j]? with|some oi,some oj=>oi.apart all.toArray oj|_,_=>true)))&&
  okF G all x y rs rest (listed.setIfInBounds i true)
 |(i,3)::rest,listed=>(Region.ready .any all.toArray listed).contains i&&vQ all listed i (blk all listed i all.length 0 [])&&
  ((List.range all.length).all fun j=>j==i||listed.getD j true||(blk all listed i all.length 0 []).contains j||(match all[i]?,all[j]? with|some oi,some oj=>oi.apart all.toArray oj|_,_=>true))&&
  okF G all x y rs rest (listed.setIfInBounds i true)
 |_::_,_=>false
theorem Bj (hS:Sta R){all:List Oper}{k:aj}{w0:World}(hsel:Region.noSelect all.toArray=true)(x y:Nat)(rs:List (Nat×Nat))(hgx:((all[x]?).map (·.guard))=some none)(hgy:((all[y]?).map (·.guard))=some none){listed:Array Bool}{e:Env}{d:List Deferred}{w w1:World}(hr:Rest w0 w)(hr1:Rest w w1)
 (hy:Region.ready .any all.toArray (listed.setIfInBounds x true)=[y]) (hok:iZ G all rs ((listed.setIfInBounds x true).setIfInBounds y true)=true) (H:Jh P R all rs k all[x]? all[y]? e d w1.heap):
 opD P all.toArray x (fun a' w'=>(G x=true->R w1.heap w'.heap)/\Rest w1 w'/\lQ P all.toArray R G (fun a w'=>k .normal a.tmps.toList a.defers w'.heap/\Rest w0 w') (rs.length+1) (listed.setIfInBounds x true) a' w') ⟨e.toArray,d⟩ w1:=by
 cases hx:all[x]? with
 |none=>simp[hx]at hgx
 |some ox=>
  cases hyo:all[y]? with
  |none=>simp[hyo]at hgy
  |some oy=>
   simp only[hx,Option.map_some,Option.some.injEq]at hgx;simp only[hyo,Option.map_some,Option.some.injEq]at hgy;rw[hx,hyo]at H;unfold Jh at H;simp only at H;refine CX (Kx:=fun e1 h1=>∀h2,R h1 h2->opW P oy.op oy.type e1 h2 (fun u h3=>R h2 h3/\bF P R all rs k (aU e1 oy.dst u) d h3)) hx hgx H fun e1 w2 hr2 K1=> ?_
   intro w3 hr3 hR3;rw[hy];refine⟨fun h=>by simp at h,fun q hq=> ?_⟩;have hq:q=y:=by simpa using hq
   subst hq;exact CX (Kx:=fun e2 h3=>bF P R all rs k e2 d h3) hyo hgy (K1 _ hR3) fun e2 w4 hr4 K2=>dO hS hsel rs _ _ d w4 (((hr.trans hr1).trans hr2).trans (hr3.trans hr4)) hok K2
theorem jm (hS:Sta R){all:List Oper}{k:aj}{w0:World}(hsel:Region.noSelect all.toArray=true)(x y:Nat)(rs:List (Nat×Nat))(hgx:((all[x]?).map (·.guard))=some none)(hgy:((all[y]?).map (·.guard))=some none):∀(pre:List (Nat×Nat)) (listed:Array Bool) (e:Env) (d:List Deferred) (w:World),Rest w0 w->
 okF G all x y rs pre listed=true->jg P R all x y rs pre k e d w.heap->
 lQ P all.toArray R G (fun a w'=>k .normal a.tmps.toList a.defers w'.heap/\Rest w0 w') (rs.length+2+pre.length) listed ⟨e.toArray,d⟩ w
 |[],listed,e,d,w,hr,hok,H=>by
  intro w1 hr1 hR1;simp only[okF,Bool.and_eq_true,decide_eq_true_eq,Bool.not_eq_true']at hok;obtain⟨h1,h2,h3,o1,o2⟩:=hok;obtain⟨A,B⟩:=H _ hR1;rw[h1];refine⟨fun h=>by simp at h,fun q hq=> ?_⟩;have hq:q=x\/q=y:=by simpa using hq
  rcases hq with rfl|rfl
  .exact Bj hS hsel q y rs hgx hgy hr hr1 h2 o1 A
  .exact Bj hS hsel q x rs hgy hgx hr hr1 h3 o2 B
 |(i,0)::rest,listed,e,d,w,hr,hok,H=>by
  simp only[okF,Bool.and_eq_true]at hok;obtain⟨⟨⟨hready,hbk⟩,hG⟩,hok⟩:=hok;unfold jg at H;cases hi:all[i]? with
  |none=>simp[hi]at H
  |some o=>
   simp only[hi]at H;have hi':all.toArray[i]? =some o:=by simpa using hi
   obtain⟨Bk,hBke⟩:∃Bk,Bk=blk all listed i all.length 0 []:=⟨_,rfl⟩;rw[<-hBke]at hbk hG;have hb1:∀j∈Bk,listed.getD j true=false:=fun j hj=>by
    have:=List.all_eq_true.1 hbk j hj;simp only[Bool.and_eq_true,Bool.not_eq_true']at this;exact this.1.1
   have hb2:∀j∈Bk,j≠i/\∀oj,all.toArray[j]? =some oj->∃e∈oj.after,Region.binds .any e=true/\(e.on=i\/e.on∈Bk):=fun j hj=>by
    have:=List.all_eq_true.1 hbk j hj;simp only[Bool.and_eq_true,bne_iff_ne,ne_eq]at this;refine⟨this.1.2,fun oj hoj=> ?_⟩;have hj2:all[j]? =some oj:=by simpa using hoj
    have h2:=this.2;rw[hj2]at h2;obtain⟨e,he,hb⟩:=Array.any_eq_true'.1 h2;simp only[Bool.and_eq_true,Bool.or_eq_true,beq_iff_eq,List.contains_eq_mem,decide_eq_true_eq]at hb;exact⟨e,he,hb.1,hb.2⟩
   have hfr:∀j oj,all.toArray[j]? =some oj->j≠i->listed.getD j true=false->j∉Bk->o.apart all.toArray oj=true/\G j=true:=by
    intro j oj hj hne hun hno;have hlt:j<all.length:=by have:=(Array.getElem?_eq_some_iff.1 hj).1;simpa using this
    have:=List.all_eq_true.1 hG j (List.mem_range.2 hlt);have hj2:all[j]? =some oj:=by simpa using hj
    simp only[hi,hj2,Bool.or_eq_true,Bool.and_eq_true,beq_iff_eq,hne,false_or,hun,Bool.false_eq_true,List.contains_eq_mem,decide_eq_true_eq,hno]at this;exact⟨this.2,this.1⟩
   have hrdy:i∈Region.ready .any all.toArray listed:=by simpa using hready
   rcases dB H o rfl with⟨hw,hA⟩|⟨hw,hB⟩
   .have hq:=tV hS hA;unfold iP at hq;obtain⟨v,hv,hk⟩:=hq;refine ja hS hi' (Region.noSelect_spec hsel) Bk hb2 (rs.length+2+rest.length) listed _ w hfr hb1 hrdy (v:=v) ?_ ?_
    .refine .inl ⟨hw,fun w' hr' hR'=> ?_⟩;have h1:=hv _ hR';refine⟨h1.1,?_⟩;have h2:=h1.2 w' rfl;rw[dY,bW];unfold dQ at h2;unfold fH;split at h2
     .exact h2
     .exact h2
     .exact h2
     .exact h2
     .exact h2.elim
    .rw[ay];exact jm hS hsel x y rs hgx hgy rest _ _ d w hr hok hk
   .refine ja hS hi' (Region.noSelect_spec hsel) Bk hb2 (rs.length+2+rest.length) listed _ w hfr hb1 hrdy (v:=undef) (.inr ⟨hw,rfl⟩) ?_;rw[ay];exact jm hS hsel x y rs hgx hgy rest _ _ d w hr hok hB
 |(i,3)::rest,listed,e,d,w,hr,hok,H=>by
  simp only[okF,Bool.and_eq_true]at hok;obtain⟨⟨⟨hready,hbk⟩,hG⟩,hok⟩:=hok;unfold jg at H;cases hi:all[i]? with
  |none=>simp[hi]at H
  |some o=>
   simp only[hi]at H;have hi':all.toArray[i]? =some o:=by simpa using hi
   obtain⟨Bk,hBke⟩:∃Bk,Bk=blk all listed i all.length 0 []:=⟨_,rfl⟩;rw[<-hBke]at hbk hG;have hb1:∀j∈Bk,listed.getD j true=false:=fun j hj=>by
    have:=List.all_eq_true.1 hbk j hj;simp only[Bool.and_eq_true,Bool.not_eq_true']at this;exact this.1.1
   have hb2:∀j∈Bk,j≠i/\∀oj,all.toArray[j]? =some oj->∃e∈oj.after,Region.binds .any e=true/\(e.on=i\/e.on∈Bk):=fun j hj=>by
    have:=List.all_eq_true.1 hbk j hj;simp only[Bool.and_eq_true,bne_iff_ne,ne_eq]at this;refine⟨this.1.2,fun oj hoj=> ?_⟩;have hj2:all[j]? =some oj:=by simpa using hoj
    have h2:=this.2;rw[hj2]at h2;obtain⟨e,he,hb⟩:=Array.any_eq_true'.1 h2;simp only[Bool.and_eq_true,Bool.or_eq_true,beq_iff_eq,List.contains_eq_mem,decide_eq_true_eq]at hb;exact⟨e,he,hb.1,hb.2⟩
   have hfr:∀j oj,all.toArray[j]? =some oj->j≠i->listed.getD j true=false->j∉Bk->o.apart all.toArray oj=true:=by
    intro j oj hj hne hun hno;have hlt:j<all.length:=by have:=(Array.getElem?_eq_some_iff.1 hj).1;simpa using this
    have:=List.all_eq_true.1 hG j (List.mem_range.2 hlt);have hj2:all[j]? =some oj:=by simpa using hj
    simp only[hi,hj2,Bool.or_eq_true,Bool.and_eq_true,beq_iff_eq,hne,false_or,hun,Bool.false_eq_true,List.contains_eq_mem,decide_eq_true_eq,hno]at this;exact this
   have hrdy:i∈Region.ready .any all.toArray listed:=by simpa using hready
   rcases dB H o rfl with⟨hw,hA⟩|⟨hw,hB⟩
   .obtain⟨hd,v,hk,hv⟩:=oD (ty:=o.type) hA;refine ig hS hi' (Region.noSelect_spec hsel) Bk hb2 (rs.length+2+rest.length) listed _ w hfr hb1 hrdy (v:=v) ?_ ?_
    .refine .inl ⟨hw,fun w' hr'=>⟨hd,?_⟩⟩;rw[dY,bW,hv w'];exact⟨⟨rfl,rfl⟩,Rest.refl _⟩
    .rw[ay];exact jm hS hsel x y rs hgx hgy rest _ _ d w hr hok hk
   .refine ig hS hi' (Region.noSelect_spec hsel) Bk hb2 (rs.length+2+rest.length) listed _ w hfr hb1 hrdy (v:=undef) (.inr ⟨hw,rfl⟩) ?_;rw[ay];exact jm hS hsel x y rs hgx hgy rest _ _ d w hr hok hB
 |(i,1)::rest,listed,e,d,w,hr,hok,H=>by simp[okF]at hok
 |(i,2)::rest,listed,e,d,w,hr,hok,H=>by simp[okF]at hok
 |(i,c+4)::rest,listed,e,d,w,hr,hok,H=>by simp[okF]at hok
theorem zBV (hm:P.follows .mixedOrders=true)(hS:Sta R){id:Nat}{all:List Oper}{k:aj}{e:Env}{d:List Deferred}{h:Heap}(x y:Nat)(pre rs:List (Nat×Nat))
 (hsel:Region.noSelect all.toArray=true) (hgx:((all[x]?).map (·.guard))=some none) (hgy:((all[y]?).map (·.guard))=some none) (hlen:rs.length+2+pre.length=all.length) (hok:okF (fun j=>j==x||j==y||EA pre j||EA rs j) all x y rs pre (Array.replicate all.length false)=true)
 (H:jg P R all x y rs pre k e d h):WP l P (.region id all.toArray true) k e d h:=by
 unfold WP;intro w hw;subst hw;refine wpIn_region_any hm ?_;have h1:=jm (w0:=w) (G:=fun j=>j==x||j==y||EA pre j||EA rs j) hS hsel x y rs hgx hgy pre _ e d {w with drawn:=w.drawn+1} ⟨rfl,rfl,rfl⟩ hok H;rw[hlen]at h1;have h2:=jc (l:=l) (Q':=fun x a w'=>k x a.tmps.toList a.defers w'.heap/\Rest w w') hS (fun a w' hq=>hq) _ _ _ _ h1;simpa using h2
variable {all:List Oper}{rest rs:List (Nat×Nat)}{k:aj}{e:Env}{d:List Deferred}{h:Heap}{dst:Option Tmp}{op:Op}{ty:TypeId}{pos:String}{after:Array Edge}{i x y:Nat}
def Le (P:Program)(R:Heap->Heap->Prop)(all:List Oper)(x y:Nat)(rs rest:List (Nat×Nat))(k:aj)(dst:Option Tmp)(e:Env)(d:List Deferred):Value->Heap->Prop:=fun v h=>jg P R all x y rs rest k (aU e dst v) d h
theorem zB8 {v:Value}:Le P R all x y rs rest k dst e d v h=jg P R all x y rs rest k (aU e dst v) d h:=eqi rfl
def stF (P:Program)(R:Heap->Heap->Prop)(o:Option Oper)(all:List Oper)(x y:Nat)(rs rest:List (Nat×Nat))(k:aj)(e:Env)(d:List Deferred)(h:Heap):Prop:=
 match o with
 |some o=>ax o.guard all e (fun e=>dK P R o.op o.type e h (fun v h'=>Le P R all x y rs rest k o.dst e d v h')) (fun e=>jg P R all x y rs rest k (aU e o.dst undef) d h)
 |none=>False
theorem Xi:jg P R all x y rs ((i,0)::rest) k e d h=stF P R all[i]? all x y rs rest k e d h:=by simp only[jg,stF,Le]
theorem Zo:stF P R (some ⟨dst,op,ty,pos,after,none⟩) all x y rs rest k e d h=dK P R op ty e h (Le P R all x y rs rest k dst e d):=by simp only[stF,ax]
def Uv (P:Program)(R:Heap->Heap->Prop)(o:Option Oper)(all:List Oper)(x y:Nat)(rs rest:List (Nat×Nat))(k:aj)(e:Env)(d:List Deferred)(h:Heap):Prop:=
 match o with
 |some o=>ax o.guard all e (fun e=>fK P o.op e h (fun v h'=>Le P R all x y rs rest k o.dst e d v h')) (fun e=>jg P R all x y rs rest k (aU e o.dst undef) d h)
 |none=>False
theorem Yr:jg P R all x y rs ((i,3)::rest) k e d h=Uv P R all[i]? all x y rs rest k e d h:=by simp only[jg,Uv,Le]
theorem Yx:Uv P R (some ⟨dst,op,ty,pos,after,none⟩) all x y rs rest k e d h=fK P op e h (Le P R all x y rs rest k dst e d):=by simp only[Uv,ax]
theorem zAL (H:∀h',R h h'->Jh P R all rs k all[x]? all[y]? e d h'/\Jh P R all rs k all[y]? all[x]? e d h'):jg P R all x y rs [] k e d h:=H
theorem zBR {b:Oper}:Jh P R all rs k (some ⟨dst,op,ty,pos,after,none⟩) (some b) e d h=opW P op ty e h (fun v h1=>R h h1/\∀h2,R h1 h2->opW P b.op b.type (aU e dst v) h2 (fun u h3=>R h2 h3/\bF P R all rs k (aU (aU e dst v) b.dst u) d h3)):=by simp only[Jh]
end fork
section vals
variable {P:Program}{h:Heap}{er:Env}{ty:TypeId}{h0:Nat}
theorem YB {t t2 el e2 ct:TypeId}{s:Nat}(hu:P.underlying t=some (.slice el))(hu2:P.underlying t2=some (.slice e2))(hi:(P.info? el).isSome=true)(hsz:szT P el=s)
 {x y:Operand} {b:Option Addr} {g off n c m c2:Nat} {cur ys:List Value} {K:Value->Heap->Prop} (hx:ev er x= .slice (some ⟨g,off,none⟩) n c) (hy:ev er y= .slice b m c2) (hb:h[g]? =some (.cells cur.toArray ct (0,0))) (hl:off+n*s<=cur.length) (I:Row h b ys) (hyl:ys.length=m*s) (h1:∀u∈ys.take (n*s),u.oneCell'=true)
 (H:∀h',h'[g]? =some (.cells (splice cur off (ys.take (n*s))).toArray ct (0,0))->Upd h h' g->K (.int .i64 (min m n:Nat)) h'):aI P (.call ⟨.builtin .copy,#[x,y],#[t,t2]⟩) ty er h K:=by
 unfold aI;refine And.intro rfl fun w hw=> ?_
 subst hw;obtain⟨i,hi⟩:=Option.isSome_iff_exists.1 hi;have hsz:i.size=s:=by simpa[szT,hi]using hsz
 have hf:=qJ (P:=P) (w:=w) (c:=c2) (k:=min m n) I hyl (Nat.min_le_left _ _);have et:ys.take (min m n*s)=ys.take (n*s):=by
  rcases Nat.le_total m n with hmn|hmn
  .have:m*s<=n*s:=Nat.mul_le_mul_right _ hmn;rw[Nat.min_eq_left hmn,List.take_of_length_le (by omega),List.take_of_length_le (by omega)]
  .rw[Nat.min_eq_right hmn]
 rw[et]at hf;have hlen:(ys.take (n*s)).length<=n*s:=by rw[List.length_take];omega
 have hst:=run_storeCells_at P g off ct (ys.take (n*s)) 0 cur.toArray w hb (by simp only[List.size_toArray];omega) (fun x hx=>h1 x hx);simp only[Nat.add_zero]at hst;have e4:cur.toArray.toList.take off++ys.take (n*s)++cur.toArray.toList.drop (off+(ys.take (n*s)).length)=splice cur off (ys.take (n*s)):=by simp[splice]
 rw[e4]at hst;have h1:(Builtin.copy_ #[t,t2] ty #[.slice (some ⟨g,off,none⟩) n c,.slice b m c2]).run P w= .ok (.int .i64 (min m n:Nat)) (w.setRow g (splice cur off (ys.take (n*s))).toArray):=by
  have e5:Nat.min m n=min m n:=rfl;simp only[Builtin.copy_,Sem.run_bind,run_underlying hu,sizeOf,typeInfo];simp[run_underlying hu,hi,hsz,Builtin.lenOf,e5,hf,hst,goInt]
 have hargs: #[x,y].map (ev er)= #[.slice (some ⟨g,off,none⟩) n c,.slice b m c2]:=by simp[hx,hy]
 have:(execOp (ev er) {dst:=none,op:= .call ⟨.builtin .copy,#[x,y],#[t,t2]⟩,type:=ty,pos:= "",after:= #[],guard:=none}).run P w= .ok (.value (.int .i64 (min m n:Nat))) (w.setRow g (splice cur off (ys.take (n*s))).toArray):=by
  simp only[execOp,resolve,invoke,builtin,Sem.run_bind,Sem.run_pure,Result.andThen_ok,hargs,h1]
 rw[this];exact⟨H _ (setRow_heap hb _).1 (setRow_heap hb _).2,rfl,rfl,rfl⟩
theorem Un {t tn el:TypeId}{z:Value}{s:Nat}(hu:P.underlying t=some (.slice el))(hun:P.underlying tn=some (.int .i64))(hi:(P.info? el).isSome=true)(hsz:szT P el=s)(hz:dJ P el=some z)(hzs:z.cells.size=s)(hs:0<s)
 {x y:Operand} {a:Option Addr} {len cap k:Nat} {olds:List Value} {K:Value->Heap->Prop} (hx:ev er x= .slice a len cap) (hy:ev er y= .int .i64 (k:Nat)) (I:Row h a olds) (hol:olds.length=len*s) (hk:0<k) (hg:cap<len+k) (hb:len+k<=1000000) (hby:(len+k)*iA P el<=1000000) (h0h:h0<=h.size)
 (H:∀cap' h' zs,zs.length=k*s->iV h0 h' el s (some ⟨h.size,0,none⟩) (len+k) cap' (olds++zs)->Ext h h'->K (.slice (some ⟨h.size,0,none⟩) (len+k) cap') h'):aI P (.call ⟨.builtin .append,#[x,y],#[t,tn]⟩) ty er h K:=by
 unfold aI;refine And.intro rfl fun w hw=> ?_
 subst hw;obtain⟨i,hi⟩:=Option.isSome_iff_exists.1 hi;have hsz:i.size=s:=by simpa[szT,hi]using hsz
 have hz:i.zero=some z:=by simpa[dJ,hi]using hz
 have hby:(len+k)*i.bytes<=1000000:=by simpa[iA,hi]using hby
 have hkb:k*i.bytes<=(len+k)*i.bytes:=Nat.mul_le_mul_right _ (by omega);have hf:(Builtin.firstCells i.size len (.slice a len cap)).run P w.drew= .ok olds.toArray w.drew:=by
  have:=qJ (P:=P) (w:=w.drew) (c:=cap) (k:=len) (s:=s) (b:=a) (m:=len) (vs:=olds) I hol (Nat.le_refl _);rw[List.take_of_length_le (by omega)]at this;rw[hsz];exact this
 have g1:=Lib.run_append_grow_zeros (P:=P) w t tn ty el i z .i64 .i64 hu hun hi hz a len cap olds hf k hk (by omega) hg (by omega) (by omega) (growslice_fits (bytes:=i.bytes) hg (by omega));have hge:=grownCap_ge w (len+k) cap el;have hargs: #[x,y].map (ev er)= #[.slice a len cap,.int .i64 (k:Nat)]:=by simp[hx,hy]
 have key:∀v w',(Builtin.append_ #[t,tn] ty #[.slice a len cap,.int .i64 (k:Nat)]).run P w= .ok v w'->Rest w w'->K v w'.heap->
  dQ P w K ((execOp (ev er) {dst:=none,op:= .call ⟨.builtin .append,#[x,y],#[t,tn]⟩,type:=ty,pos:= "",after:= #[],guard:=none}).run P w):=by
  intro v w' h1 h2 h3;have:(execOp (ev er) {dst:=none,op:= .call ⟨.builtin .append,#[x,y],#[t,tn]⟩,type:=ty,pos:= "",after:= #[],guard:=none}).run P w= .ok (.value v) w':=by
   simp only[execOp,resolve,invoke,builtin,Sem.run_bind,Sem.run_pure,Result.andThen_ok,hargs,h1]
  rw[this];exact⟨h3,h2⟩
 have hzl:(Builtin.zeroCells z.cells k).size=k*s:=by rw[iF,hzs]
 refine key _ _ g1 ⟨rfl,rfl,rfl⟩ (H (grownCap w (len+k) cap el) _ (Builtin.zeroCells z.cells k).toList (by simpa using hzl) ⟨by rw[List.length_append,hol,Array.length_toList,hzl,Nat.add_mul],.inr ⟨w.heap.size,_,rfl,h0h,jD,?_,hge,?_⟩⟩ ((Ext.refl _).push _))
 .have e1:(len+k)*s+(grownCap w (len+k) cap el-(len+k))*s=grownCap w (len+k) cap el*s:=by rw[<-Nat.add_mul];congr 1;omega
  simp only[Array.size_append,List.size_toArray,iF,hzs,hol,Nat.add_mul]at e1 ⊢;omega
 .simp only[Array.toList_append,List.toList_toArray];rw[List.take_append_of_le_length (by simp[hol,hzl,Nat.add_mul]),List.take_of_length_le (by simp[hol,hzl,Nat.add_mul])]
end vals
end Go.Eng
