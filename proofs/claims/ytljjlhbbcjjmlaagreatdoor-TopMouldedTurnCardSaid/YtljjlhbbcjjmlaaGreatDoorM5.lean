/- The statement on moulds and turns: its function in pieces. No condition. -/
import Derived.Test.YtljjlhbbcjjmlaaGreatDoorRunM
import Derived.Test.YtljjlhbbcjjmlaaGreatDoorPr
namespace Go.Proofs.YtljjlhbbcjjmlaaGreatDoor.M5
open Go Go.Proofs Go.Run Go.Eng
set_option maxRecDepth 100000
set_option linter.unusedVariables false
set_option linter.unusedSimpArgs false
@[reducible] noncomputable def M:Fm:=⟨gV Pt.ff4.nt,Pt.ff4.nt⟩
noncomputable def p1:Pr:=U4 Pt.pr (GN [(5,XR memT)])
noncomputable def O0:List Oper:=[⟨some 4,.assign (.const (.bool false)),4,"top09.go:48",#[],none⟩]
noncomputable def O1:List Oper:=[⟨some 19,.move (.tmp 0),5,"top09.go:49",#[],none⟩,⟨some 20,.convert 5 3 (.tmp 19),3,"top09.go:49",#[⟨0,.data⟩],none⟩,⟨some 21,.binOp .rem 3 (.tmp 20) (.const (.int .i64 3)) 3,3,"top09.go:49",#[⟨1,.data⟩],none⟩,⟨some 22,.binOp .add 3 (.const (.int .i64 1)) (.tmp 21) 3,3,"top09.go:49",#[⟨2,.data⟩],none⟩,⟨some 5,.assign (.tmp 22),3,"top09.go:49",#[⟨3,.data⟩,⟨0,.phase⟩,⟨1,.phase⟩,⟨2,.phase⟩,⟨3,.phase⟩],none⟩]
theorem sA:xX Pt.ff4.body= .region 0 O0.toArray false:: .region 1 O1.toArray false::(xX Pt.ff4.body).drop 2:=by kernel_rfl
theorem in64 {z:Int}(h0: -1000<=z)(h1:z<=1000):InK .i64 z:=by
 have a:IntKind.i64.min= -9223372036854775808:=by decide
 have b:IntKind.i64.max=9223372036854775807:=by decide
 exact⟨by omega,by omega⟩
theorem hand0 (a:Int)(h0:0<=a)(h1:a<256){K:aj}{er:Env}{dr:List Deferred}{h:Heap}(hl:er.length=142)(ha:er.getD 0 undef= .int .u8 a)
 (H:WPs none Tryz.prog ((xX Pt.ff4.body).drop 2) K ((((((er.set 4 (.bool false)).set 19 (.int .u8 a)).set 20 (.int .i64 a)).set 21 (.int .i64 (a % 3))).set 22 (.int .i64 (1+a % 3))).set 5 (.int .i64 (1+a % 3))) dr h):WPs none Tryz.prog (xX Pt.ff4.body) K er dr h:=by
 rw[sA];refine Yz ?_;unfold O0;have u3:Tryz.prog.underlying 3=some (.int .i64):=by kernel_rfl
 have u5:Tryz.prog.underlying 5=some (.int .u8):=by kernel_rfl
 simp only[coreS];show WPs none Tryz.prog (Code.region 1 O1.toArray false::List.drop 2 (xX Pt.ff4.body)) K (er.set 4 (.bool false)) dr h;refine Yz ?_;unfold O1;simp only[coreS,Zb,List.length_set,hl,ha,u3,u5,true_and,Nat.reduceLT,Nat.reduceEqDiff,false_and];have e1:a.tmod 3=a % 3:=Int.tmod_eq_emod_of_nonneg h0;refine⟨in64 (by omega) (by omega),by decide,in64 (by omega) (by omega),?_⟩;rw[e1];exact H
noncomputable def stp (r:Nat):T:= .res .u32 6 (.ofNat r) 0 4294967295
noncomputable def B (a n:Int)(r:Nat):E:=En.set (Pa.of M.dp 5) (.int .i64 n) (En.set (Pa.of M.dp 22) .any (En.set (Pa.of M.dp 21) .any (En.set (Pa.of M.dp 20) .any (En.set (Pa.of M.dp 19) .any (En.set (Pa.of M.dp 4) (.bool false) (pg M [.int .u8 a,stp r] 0 (.leaf fB) id))))))
noncomputable def E0 (n:Int)(r:Nat):E:=EM M [(1,stp r),(4,.bool false),(5,.int .i64 n)] (.leaf .any)
def Q (n:Int)(r:Nat):Prop:=lastB p1 1000000 M Pt.ff4.res ((xX Pt.ff4.body).drop 2) (E0 n r) [] s0=true
theorem keep {P:Program}{m:Fm}{e:E}{d:List Nat}{s:S}{h0 h:Heap}{er:Env}{dr:List Deferred}(G:Run.Good P m e d s h0 er dr h)(ks:List Nat):Run.Good P m (Ht m ks e (.leaf .any)) d s h0 er dr h:=by
 obtain⟨ι,re,r⟩:=G;exact⟨ι,Am re ks _ ⟨re.len,re.fit,fun i hi=>by rw[En.bU];simp[VR]⟩,r⟩
theorem nil {Q:Nat->Prop}:∀r,r<0->Q r:=fun _ h=>absurd h (Nat.not_lt_zero _)
theorem st {Q:Nat->Prop}{k:Nat}(h:∀r,r<k->Q r)(t:Q k):∀r,r<k+1->Q r:=fun r hr=>by
 rcases Nat.lt_succ_iff_lt_or_eq.1 hr with h1|rfl
 .exact h r h1
 .exact t
end Go.Proofs.YtljjlhbbcjjmlaaGreatDoor.M5
