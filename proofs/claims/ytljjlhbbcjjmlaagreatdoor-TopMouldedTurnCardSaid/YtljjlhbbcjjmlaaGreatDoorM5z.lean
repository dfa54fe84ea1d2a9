/- The statement on moulds and turns. No condition. -/
import Derived.Test.YtljjlhbbcjjmlaaGreatDoorM5
import Derived.Test.YtljjlhbbcjjmlaaGreatDoorM5a
import Derived.Test.YtljjlhbbcjjmlaaGreatDoorM5b
import Derived.Test.YtljjlhbbcjjmlaaGreatDoorM5c
import Derived.Test.YtljjlhbbcjjmlaaGreatDoorWs
namespace Go.Proofs.YtljjlhbbcjjmlaaGreatDoor.M5
open Go Go.Proofs Go.Run Go.Eng
set_option maxRecDepth 100000
set_option linter.unusedVariables false
set_option linter.unusedSimpArgs false
theorem good_eq {P:Program}{m:Fm}{e e':E}{d:List Nat}{s:S}{h0 h:Heap}{er:Env}{dr:List Deferred}(q:e=e')(G:Run.Good P m e d s h0 er dr h):Run.Good P m e' d s h0 er dr h:=q▸G
theorem ok1:Ok Tryz.prog p1:=zAy Pt.ok _
theorem lb1:fE Tryz.prog p1:=Zc Pt.lb [(5,XR memT)] (List.forall_mem_cons.2 ⟨zBG (YL Ws.works5),fun _ h=>(List.not_mem_nil h).elim⟩)
theorem kept (a n:Int)(r:Nat):Ht M [1,4,5] (B a n r) (.leaf .any)=E0 n r:=by kernel_rfl
theorem all1:∀r,r<6->Q 1 r:=st (st (st (st (st (st (nil) t1_0) t1_1) t1_2) t1_3) t1_4) t1_5
theorem all2:∀r,r<6->Q 2 r:=st (st (st (st (st (st (nil) t2_0) t2_1) t2_2) t2_3) t2_4) t2_5
theorem all3:∀r,r<6->Q 3 r:=st (st (st (st (st (st (nil) t3_0) t3_1) t3_2) t3_3) t3_4) t3_5
theorem moulded (a s:Int)(h:Heap)(ha:0<=a/\a<=255)(hs:0<=s/\s<=4294967295):ak Tryz.prog 4 #[.int .u8 a,.int .u32 s] h (fun v h'=>v= .bool true/\Ext h h'):=by
 refine Zq Pt.ok (fi:=Pt.ff4) (by kernel_rfl) (us:=[.int .u8 a,.int .u32 s]) (show 2<=Pt.ff4.nt by decide+kernel) ?_;obtain⟨r,hr⟩:∃r:Nat,s % 6=(r:Int):=⟨(s % 6).toNat,by omega⟩;have hlt:r<6:=by omega
 have hv:VL (fun _=>none) [.int .u8 a,stp r] [.int .u8 a,.int .u32 s]:=by
  simp only[VL,stp,VR];exact⟨_,_,rfl,rfl,_,_,rfl,⟨s,rfl,hr,hs.1,hs.2⟩,rfl⟩
 have G0:=Good.start (P:=Tryz.prog) (h0:=h) (nt:=Pt.ff4.nt) hv (show 2<=Pt.ff4.nt by decide+kernel) (by decide+kernel);have hnt:Pt.ff4.nt=142:=by kernel_rfl
 have hl:=G0.len;have h0:([Value.int .u8 a,.int .u32 s]++List.replicate (Pt.ff4.nt-[Value.int .u8 a,.int .u32 s].length) undef).getD 0 undef= .int .u8 a:=rfl;refine hand0 a ha.1 (by omega) (hl.trans hnt) h0 ?_;have G1:=((((G0.put (q:=4) (v:= .bool false) (u:= .bool false) (by rw[hnt];decide) (fun ι=>by simp only[VR])).fF (q:=19) (u:= .int .u8 a) (by rw[hnt];decide)).fF (q:=20) (u:= .int .i64 a) (by rw[hnt];decide)).fF (q:=21) (u:= .int .i64 (a % 3)) (by rw[hnt];decide)).fF (q:=22) (u:= .int .i64 (1+a % 3)) (by rw[hnt];decide);have G2:=keep (G1.putI (q:=5) (k:= .i64) (z:=1+a % 3) (by rw[hnt];decide)) [1,4,5];have G3:=good_eq (kept a (1+a % 3) r) G2;have hn:1+a % 3=1\/1+a % 3=2\/1+a % 3=3:=by omega
 rcases hn with e|e|e
 .rw[e]at G3 ⊢;exact Zj ok1 lb1 (all1 r hlt) G3
 .rw[e]at G3 ⊢;exact Zj ok1 lb1 (all2 r hlt) G3
 .rw[e]at G3 ⊢;exact Zj ok1 lb1 (all3 r hlt) G3
end Go.Proofs.YtljjlhbbcjjmlaaGreatDoor.M5
