/- Texts joined by pack.py: lemmas for YtepaekbjoombpaaGreatDoorFiled. No condition. -/
import Derived.Test.YtepaekbjoombpaaGreatDoorPG9
import Derived.Laws.Externs
import Derived.Lib.Builder
import Derived.KernelRfl
set_option linter.unusedSimpArgs false
set_option linter.unusedVariables false
set_option linter.defProp false
section
namespace Go.Proofs.YtepaekbjoombpaaGreatDoor
open Go Go.Proofs Go.Eng Go.Run Tab
set_option maxRecDepth 100000
set_option linter.unusedSimpArgs false
set_option linter.unusedVariables false
set_option linter.defProp false
def zaZ:=(And.intro (And.intro @agg113 (And.intro @fo115_0 @inf113)) (And.intro @sz113 (And.intro @Tryz.underlying113 @Tryz.underlying182)))
theorem noEsc (x:Value)(w:World):(callFunc 147 #[x]).run Tryz.prog w=.ok (.value x) w:=by
  rw [run_callFunc_extern (fn:=Tryz.f147) (by kernel_rfl) (by kernel_rfl) (by kernel_rfl) (by kernel_rfl) (e:=Extern.AbiNoEscape.same) (by kernel_rfl)]
  rfl
theorem ptrNil {P:Program}{e:Env}{h:Eng.Heap}{ty u yt el:TypeId}(hu:P.underlying u=some (.pointer el)){x y:Operand}{a:Option Addr}(hx:ev e x=.pointer a)(hy:ev e y=.pointer none){K:Value→Eng.Heap→Prop}(H:K (.bool a.isNone) h):ze P (.binOp .eql u x y yt) ty e h K:=
  zk rfl _ H fun w _=>by simp [execOp,hx,hy,eqGuard,Go.binOp,eq_ptr hu]
theorem ptrSame {P:Program}{e:Env}{h:Eng.Heap}{ty u yt el:TypeId}{j:TypeInfo}(hu:P.underlying u=some (.pointer el))(hj:P.info? el=some j){x y:Operand}{a:Addr}(hx:ev e x=.pointer (some a))(hy:ev e y=.pointer (some a)){K:Value→Eng.Heap→Prop}(H:K (.bool false) h):ze P (.binOp .neq u x y yt) ty e h K:=
  zk rfl _ H fun w _=>by simp [execOp,hx,hy,eqGuard,Lib.run_neq_ptr_same w a hu hj]
theorem zlV {a:Option Addr}{u s:Option TypeDesc}{F:Prop}{h:Eng.Heap}{K:Value→Eng.Heap→Prop}:cvW (.pointer a) u s F h K=F:=by unfold cvW; rfl
theorem lies115:liesAt Tryz.prog Tryz.prog.depth 115 (2 / Tryz.prog.cellsOf 115) 0 115 1=true:=by kernel_rfl
theorem zgi {op:BinOp}{a b:Option Addr}{h:Eng.Heap}{K:Value→Eng.Heap→Prop}{F:Prop}:binW op (.pointer a) (.pointer b) h K F=F:=by unfold binW; rfl
theorem zmn {P:Program}{e:Env}{h:Eng.Heap}{ty s d:TypeId}{x:Operand}{a:Addr}(hrun:∀ w:World,w.heap=h→(convert s d (.pointer (some a))).run P w=.ok (.pointer (some a)) w)(hx:ev e x=.pointer (some a)){K:Value→Eng.Heap→Prop}(H:K (.pointer (some a)) h):ze P (.convert s d x) ty e h K:=
  zk rfl _ H fun w hw=>by
    simp only [execOp,hx,Sem.run_bind,hrun w hw,Result.andThen_ok]
    rfl
theorem callN {e:Env}{h:Eng.Heap}{ty:TypeId}{x:Operand}{v:Value}{ats:Array TypeId}(hx:ev e x=v){K:Value→Eng.Heap→Prop}(H:K v h):ze Tryz.prog (.call ⟨.value (.func 147),#[x],ats⟩) ty e h K:=
  zk rfl v H fun w hw=>by
    have e1:ev e (Operand.func 147)=Value.func (.func 147) #[] #[]:=rfl
    simp only [execOp,resolve,e1,Deferred.ofValue,invoke,Sem.run_bind,Sem.run_pure,Result.andThen_ok]
    have:=noEsc v w
    simpa [hx] using this
theorem copyQ:CopyQ Tryz.prog 117 115:=by
  intro h r c d hr hc
  have hlt:=zN hr
  have hne:¬ (r=h.size):=by omega
  refine zdc Tryz.func117 rfl bod117 ?_
  simp only [Tryz.ntmps117,Tryz.results117,za,Value.cells,Value.oneCell',Nat.reduceAdd,Nat.reduceSub,Nat.reduceMul,Nat.reduceLeDiff,Int.reduceEq,Nat.reduceEqDiff,zaZ]
  refine WP_seq (zaO _ _ _ _ _ ?_)
  rcases hc with rfl | rfl
  · simp only [hr,splice,za,Value.cells,Value.oneCell',Nat.reduceAdd,Nat.reduceSub,Nat.reduceMul,Nat.reduceLeDiff,Int.reduceEq,Nat.reduceEqDiff,zaZ]
    rw [zgi]
    refine ptrNil Tryz.underlying113 (by rfl) (by rfl) ?_
    simp only [Option.isNone,za,Value.cells,Value.oneCell',Nat.reduceAdd,Nat.reduceSub,Nat.reduceMul,Nat.reduceLeDiff,Int.reduceEq,Nat.reduceEqDiff,zaZ]
    refine zlL (b:=true) rfl ?_
    simp only [if_true]
    refine zm2 3 ?_
    simp only [execJ]
    refine⟨trivial,?_⟩
    simp only [za,Value.cells,Value.oneCell',Nat.reduceAdd,Nat.reduceSub,Nat.reduceMul,Nat.reduceLeDiff,Int.reduceEq,Nat.reduceEqDiff,zaZ]
    rw [zlV]
    obtain⟨j,hj⟩:=Option.isSome_iff_exists.1 inf115
    have hjs:j.size=2:=by have:=sz115; simp [szT,hj] at this; exact this
    have hsh:∀ w:World,w.heap=h→w.shape? r=some (115,2):=fun w hw=>by unfold World.shape?; rw [hw,hr]; rfl
    refine zmn (fun w hw=>Lib.run_to_unsafe w ⟨r,0,none⟩ Tryz.underlying113 Tryz.underlying182 hj (by omega) (hsh w hw) (Nat.zero_lt_succ 1)) (by rfl) ?_
    refine callN (v:=.pointer (some ⟨r,0,none⟩)) (by rfl) ?_
    rw [zlV]
    refine zmn (fun w hw=>Lib.run_from_unsafe w ⟨r,0,none⟩ Tryz.underlying182 Tryz.underlying113 hj (hsh w hw) lies115) (by rfl) ?_
    simp only [hr,splice,za,zm,splice,Value.cells,Value.oneCell',Nat.reduceAdd,Nat.reduceSub,Nat.reduceMul,Nat.reduceLeDiff,Int.reduceEq,Nat.reduceEqDiff,zaZ]
    rfl
  · simp only [hr,splice,za,Value.cells,Value.oneCell',Nat.reduceAdd,Nat.reduceSub,Nat.reduceMul,Nat.reduceLeDiff,Int.reduceEq,Nat.reduceEqDiff,zaZ]
    rw [zgi]
    refine ptrNil Tryz.underlying113 (by rfl) (by rfl) ?_
    simp only [Option.isNone,za,Value.cells,Value.oneCell',Nat.reduceAdd,Nat.reduceSub,Nat.reduceMul,Nat.reduceLeDiff,Int.reduceEq,Nat.reduceEqDiff,zaZ]
    refine zlL (b:=false) rfl ?_
    simp only [Bool.false_eq_true,if_false]
    refine zaO _ _ _ _ _ ?_
    simp only [hr,splice,za,Value.cells,Value.oneCell',Nat.reduceAdd,Nat.reduceSub,Nat.reduceMul,Nat.reduceLeDiff,Int.reduceEq,Nat.reduceEqDiff,zaZ]
    rw [zgi]
    obtain⟨j,hj⟩:=Option.isSome_iff_exists.1 inf115
    refine ptrSame Tryz.underlying113 hj (by rfl) (by rfl) ?_
    simp only [hr,splice,za,Value.cells,Value.oneCell',Nat.reduceAdd,Nat.reduceSub,Nat.reduceMul,Nat.reduceLeDiff,Int.reduceEq,Nat.reduceEqDiff,zaZ]
    apply Array.ext_getElem?
    intro j
    rw [Array.getElem?_setIfInBounds]
    split
    · rename_i hj
      subst hj
      exact hr
    · rfl
end Go.Proofs.YtepaekbjoombpaaGreatDoor
end
section
namespace Go.Proofs.YtepaekbjoombpaaGreatDoor.Pt
open Go Go.Proofs Go.Run
set_option maxRecDepth 100000
theorem y0:mkTI Tryz.prog 0=some ⟨1,0,(.tup []),.other,[]⟩:=by kernel_rfl
theorem q0:TyQ Tryz.prog 0 (some ⟨1,0,(.tup []),.other,[]⟩):=fun ti h=>by cases h; exact⟨y0,.inl rfl⟩
theorem y1:mkTI Tryz.prog 1=some ⟨1,8,.nfunc,.func,[]⟩:=by kernel_rfl
theorem q1:TyQ Tryz.prog 1 (some ⟨1,8,.nfunc,.func,[]⟩):=fun ti h=>by cases h; exact⟨y1,.inl rfl⟩
theorem y2:mkTI Tryz.prog 2=some ⟨1,8,(.int .i64 0),(.int .i64),[]⟩:=by kernel_rfl
theorem q2:TyQ Tryz.prog 2 (some ⟨1,8,(.int .i64 0),(.int .i64),[]⟩):=fun ti h=>by cases h; exact⟨y2,.inl rfl⟩
theorem y3:mkTI Tryz.prog 3=some ⟨1,8,(.int .i64 0),(.int .i64),[]⟩:=by kernel_rfl
theorem q3:TyQ Tryz.prog 3 (some ⟨1,8,(.int .i64 0),(.int .i64),[]⟩):=fun ti h=>by cases h; exact⟨y3,.inl rfl⟩
theorem y4:mkTI Tryz.prog 4=some ⟨1,1,(.bool false),.bool,[]⟩:=by kernel_rfl
theorem q4:TyQ Tryz.prog 4 (some ⟨1,1,(.bool false),.bool,[]⟩):=fun ti h=>by cases h; exact⟨y4,.inl rfl⟩
theorem y5:mkTI Tryz.prog 5=some ⟨1,1,(.int .u8 0),(.int .u8),[]⟩:=by kernel_rfl
theorem q5:TyQ Tryz.prog 5 (some ⟨1,1,(.int .u8 0),(.int .u8),[]⟩):=fun ti h=>by cases h; exact⟨y5,.inl rfl⟩
theorem y6:mkTI Tryz.prog 6=some ⟨1,1,(.int .u8 0),(.int .u8),[]⟩:=by kernel_rfl
theorem q6:TyQ Tryz.prog 6 (some ⟨1,1,(.int .u8 0),(.int .u8),[]⟩):=fun ti h=>by cases h; exact⟨y6,.inl rfl⟩
theorem y7:mkTI Tryz.prog 7=some ⟨4,24,(.agg [(.int .i64 0),(.int .i64 0),(.bool false),(.int .u8 0)]),(.strct [(0,2,1),(1,3,1),(2,4,1),(3,6,1)]),[]⟩:=by kernel_rfl
theorem q7:TyQ Tryz.prog 7 (some ⟨4,24,(.agg [(.int .i64 0),(.int .i64 0),(.bool false),(.int .u8 0)]),(.strct [(0,2,1),(1,3,1),(2,4,1),(3,6,1)]),[]⟩):=fun ti h=>by cases h; exact⟨y7,.inl rfl⟩
theorem y8:mkTI Tryz.prog 8=some ⟨4,24,(.agg [(.int .i64 0),(.int .i64 0),(.bool false),(.int .u8 0)]),(.strct [(0,2,1),(1,3,1),(2,4,1),(3,6,1)]),[]⟩:=by kernel_rfl
theorem q8:TyQ Tryz.prog 8 (some ⟨4,24,(.agg [(.int .i64 0),(.int .i64 0),(.bool false),(.int .u8 0)]),(.strct [(0,2,1),(1,3,1),(2,4,1),(3,6,1)]),[]⟩):=fun ti h=>by cases h; exact⟨y8,.inl rfl⟩
theorem y9:mkTI Tryz.prog 9=some ⟨1,16,(.str []),.string,[]⟩:=by kernel_rfl
theorem q9:TyQ Tryz.prog 9 (some ⟨1,16,(.str []),.string,[]⟩):=fun ti h=>by cases h; exact⟨y9,.inl rfl⟩
theorem y10:mkTI Tryz.prog 10=some ⟨1,16,(.str []),.string,[]⟩:=by kernel_rfl
theorem q10:TyQ Tryz.prog 10 (some ⟨1,16,(.str []),.string,[]⟩):=fun ti h=>by cases h; exact⟨y10,.inl rfl⟩
theorem y11:mkTI Tryz.prog 11=some ⟨1,16,(.str []),.string,[]⟩:=by kernel_rfl
theorem q11:TyQ Tryz.prog 11 (some ⟨1,16,(.str []),.string,[]⟩):=fun ti h=>by cases h; exact⟨y11,.inl rfl⟩
theorem y12:mkTI Tryz.prog 12=some ⟨1,8,(.int .u64 0),(.int .u64),[]⟩:=by kernel_rfl
theorem q12:TyQ Tryz.prog 12 (some ⟨1,8,(.int .u64 0),(.int .u64),[]⟩):=fun ti h=>by cases h; exact⟨y12,.inl rfl⟩
theorem y13:mkTI Tryz.prog 13=some ⟨2,24,(.agg [(.str []),(.int .u64 0)]),(.strct [(0,9,1),(1,12,1)]),[]⟩:=by kernel_rfl
theorem q13:TyQ Tryz.prog 13 (some ⟨2,24,(.agg [(.str []),(.int .u64 0)]),(.strct [(0,9,1),(1,12,1)]),[]⟩):=fun ti h=>by cases h; exact⟨y13,.inl rfl⟩
theorem y14:mkTI Tryz.prog 14=some ⟨2,24,(.agg [(.str []),(.int .u64 0)]),(.strct [(0,9,1),(1,12,1)]),[]⟩:=by kernel_rfl
theorem q14:TyQ Tryz.prog 14 (some ⟨2,24,(.agg [(.str []),(.int .u64 0)]),(.strct [(0,9,1),(1,12,1)]),[]⟩):=fun ti h=>by cases h; exact⟨y14,.inl rfl⟩
theorem y15:mkTI Tryz.prog 15=some ⟨1,8,.nptr,(.ptr 270),[]⟩:=by kernel_rfl
theorem q15:TyQ Tryz.prog 15 (some ⟨1,8,.nptr,(.ptr 270),[]⟩):=fun ti h=>by cases h; exact⟨y15,.inl rfl⟩
theorem y16:mkTI Tryz.prog 16=some ⟨1,8,.nptr,(.ptr 273),[]⟩:=by kernel_rfl
theorem q16:TyQ Tryz.prog 16 (some ⟨1,8,.nptr,(.ptr 273),[]⟩):=fun ti h=>by cases h; exact⟨y16,.inl rfl⟩
theorem y17:mkTI Tryz.prog 17=some ⟨1,8,.nptr,(.ptr 281),[]⟩:=by kernel_rfl
theorem q17:TyQ Tryz.prog 17 (some ⟨1,8,.nptr,(.ptr 281),[]⟩):=fun ti h=>by cases h; exact⟨y17,.inl rfl⟩
theorem y18:mkTI Tryz.prog 18=some ⟨1,8,(.agg [.nptr]),(.strct [(0,17,1)]),[]⟩:=by kernel_rfl
theorem q18:TyQ Tryz.prog 18 (some ⟨1,8,(.agg [.nptr]),(.strct [(0,17,1)]),[]⟩):=fun ti h=>by cases h; exact⟨y18,.inl rfl⟩
theorem y19:mkTI Tryz.prog 19=some ⟨1,8,(.agg [.nptr]),(.strct [(0,17,1)]),[]⟩:=by kernel_rfl
theorem q19:TyQ Tryz.prog 19 (some ⟨1,8,(.agg [.nptr]),(.strct [(0,17,1)]),[]⟩):=fun ti h=>by cases h; exact⟨y19,.inl rfl⟩
theorem y20:mkTI Tryz.prog 20=some ⟨1,16,.niface,.iface,[]⟩:=by kernel_rfl
theorem q20:TyQ Tryz.prog 20 (some ⟨1,16,.niface,.iface,[]⟩):=fun ti h=>by cases h; exact⟨y20,.inl rfl⟩
theorem y21:mkTI Tryz.prog 21=some ⟨1,4,(.int .i32 0),(.int .i32),[]⟩:=by kernel_rfl
theorem q21:TyQ Tryz.prog 21 (some ⟨1,4,(.int .i32 0),(.int .i32),[]⟩):=fun ti h=>by cases h; exact⟨y21,.inl rfl⟩
theorem y22:mkTI Tryz.prog 22=some ⟨1,24,.nslice,(.slice 26),[]⟩:=by kernel_rfl
theorem q22:TyQ Tryz.prog 22 (some ⟨1,24,.nslice,(.slice 26),[]⟩):=fun ti h=>by cases h; exact⟨y22,.inl rfl⟩
theorem y23:mkTI Tryz.prog 23=some ⟨3,40,(.agg [(.int .i64 0),(.int .i64 0),.nslice]),(.strct [(0,3,1),(1,3,1),(2,22,1)]),[]⟩:=by kernel_rfl
theorem q23:TyQ Tryz.prog 23 (some ⟨3,40,(.agg [(.int .i64 0),(.int .i64 0),.nslice]),(.strct [(0,3,1),(1,3,1),(2,22,1)]),[]⟩):=fun ti h=>by cases h; exact⟨y23,.inl rfl⟩
theorem y24:mkTI Tryz.prog 24=some ⟨3,40,(.agg [(.int .i64 0),(.int .i64 0),.nslice]),(.strct [(0,3,1),(1,3,1),(2,22,1)]),[]⟩:=by kernel_rfl
theorem q24:TyQ Tryz.prog 24 (some ⟨3,40,(.agg [(.int .i64 0),(.int .i64 0),.nslice]),(.strct [(0,3,1),(1,3,1),(2,22,1)]),[]⟩):=fun ti h=>by cases h; exact⟨y24,.inl rfl⟩
theorem y25:mkTI Tryz.prog 25=some ⟨4,32,(.agg [(.int .i64 0),(.int .i64 0),(.int .i64 0),(.int .i64 0)]),(.strct [(0,3,1),(1,3,1),(2,3,1),(3,2,1)]),[]⟩:=by kernel_rfl
theorem q25:TyQ Tryz.prog 25 (some ⟨4,32,(.agg [(.int .i64 0),(.int .i64 0),(.int .i64 0),(.int .i64 0)]),(.strct [(0,3,1),(1,3,1),(2,3,1),(3,2,1)]),[]⟩):=fun ti h=>by cases h; exact⟨y25,.inl rfl⟩
theorem y26:mkTI Tryz.prog 26=some ⟨4,32,(.agg [(.int .i64 0),(.int .i64 0),(.int .i64 0),(.int .i64 0)]),(.strct [(0,3,1),(1,3,1),(2,3,1),(3,2,1)]),[]⟩:=by kernel_rfl
theorem z26:flT Tryz.prog 26=[.i,.i,.i,.i]:=by kernel_rfl
theorem q26:TyQ Tryz.prog 26 (some ⟨4,32,(.agg [(.int .i64 0),(.int .i64 0),(.int .i64 0),(.int .i64 0)]),(.strct [(0,3,1),(1,3,1),(2,3,1),(3,2,1)]),[.i,.i,.i,.i]⟩):=fun ti h=>by cases h; exact⟨y26,.inr z26⟩
theorem y27:mkTI Tryz.prog 27=some ⟨1,8,.nfunc,.func,[]⟩:=by kernel_rfl
theorem q27:TyQ Tryz.prog 27 (some ⟨1,8,.nfunc,.func,[]⟩):=fun ti h=>by cases h; exact⟨y27,.inl rfl⟩
theorem y28:mkTI Tryz.prog 28=some ⟨1,8,.nfunc,.func,[]⟩:=by kernel_rfl
theorem q28:TyQ Tryz.prog 28 (some ⟨1,8,.nfunc,.func,[]⟩):=fun ti h=>by cases h; exact⟨y28,.inl rfl⟩
theorem y29:mkTI Tryz.prog 29=some ⟨1,8,(.int .i64 0),(.int .i64),[]⟩:=by kernel_rfl
theorem q29:TyQ Tryz.prog 29 (some ⟨1,8,(.int .i64 0),(.int .i64),[]⟩):=fun ti h=>by cases h; exact⟨y29,.inl rfl⟩
theorem y31:mkTI Tryz.prog 31=some ⟨1,8,.nfunc,.func,[]⟩:=by kernel_rfl
theorem q31:TyQ Tryz.prog 31 (some ⟨1,8,.nfunc,.func,[]⟩):=fun ti h=>by cases h; exact⟨y31,.inl rfl⟩
theorem y32:mkTI Tryz.prog 32=some ⟨1,8,.nfunc,.func,[]⟩:=by kernel_rfl
theorem q32:TyQ Tryz.prog 32 (some ⟨1,8,.nfunc,.func,[]⟩):=fun ti h=>by cases h; exact⟨y32,.inl rfl⟩
theorem y33:mkTI Tryz.prog 33=some ⟨1,8,.nfunc,.func,[]⟩:=by kernel_rfl
theorem q33:TyQ Tryz.prog 33 (some ⟨1,8,.nfunc,.func,[]⟩):=fun ti h=>by cases h; exact⟨y33,.inl rfl⟩
theorem y34:mkTI Tryz.prog 34=some ⟨1,8,.nfunc,.func,[]⟩:=by kernel_rfl
theorem q34:TyQ Tryz.prog 34 (some ⟨1,8,.nfunc,.func,[]⟩):=fun ti h=>by cases h; exact⟨y34,.inl rfl⟩
theorem y35:mkTI Tryz.prog 35=some ⟨1,8,.nfunc,.func,[]⟩:=by kernel_rfl
theorem q35:TyQ Tryz.prog 35 (some ⟨1,8,.nfunc,.func,[]⟩):=fun ti h=>by cases h; exact⟨y35,.inl rfl⟩
theorem y36:mkTI Tryz.prog 36=some ⟨1,8,.nfunc,.func,[]⟩:=by kernel_rfl
theorem q36:TyQ Tryz.prog 36 (some ⟨1,8,.nfunc,.func,[]⟩):=fun ti h=>by cases h; exact⟨y36,.inl rfl⟩
theorem y37:mkTI Tryz.prog 37=some ⟨1,24,.nslice,(.slice 2),[]⟩:=by kernel_rfl
theorem q37:TyQ Tryz.prog 37 (some ⟨1,24,.nslice,(.slice 2),[]⟩):=fun ti h=>by cases h; exact⟨y37,.inl rfl⟩
theorem y39:mkTI Tryz.prog 39=some ⟨1,8,.nfunc,.func,[]⟩:=by kernel_rfl
theorem q39:TyQ Tryz.prog 39 (some ⟨1,8,.nfunc,.func,[]⟩):=fun ti h=>by cases h; exact⟨y39,.inl rfl⟩
theorem y40:mkTI Tryz.prog 40=some ⟨1,24,.nslice,(.slice 3),[]⟩:=by kernel_rfl
theorem q40:TyQ Tryz.prog 40 (some ⟨1,24,.nslice,(.slice 3),[]⟩):=fun ti h=>by cases h; exact⟨y40,.inl rfl⟩
theorem y42:mkTI Tryz.prog 42=some ⟨1,8,.nfunc,.func,[]⟩:=by kernel_rfl
theorem q42:TyQ Tryz.prog 42 (some ⟨1,8,.nfunc,.func,[]⟩):=fun ti h=>by cases h; exact⟨y42,.inl rfl⟩
theorem y43:mkTI Tryz.prog 43=some ⟨1,8,.nfunc,.func,[]⟩:=by kernel_rfl
theorem q43:TyQ Tryz.prog 43 (some ⟨1,8,.nfunc,.func,[]⟩):=fun ti h=>by cases h; exact⟨y43,.inl rfl⟩
theorem y44:mkTI Tryz.prog 44=some ⟨1,8,.nfunc,.func,[]⟩:=by kernel_rfl
theorem q44:TyQ Tryz.prog 44 (some ⟨1,8,.nfunc,.func,[]⟩):=fun ti h=>by cases h; exact⟨y44,.inl rfl⟩
theorem y45:mkTI Tryz.prog 45=some ⟨1,8,.nfunc,.func,[]⟩:=by kernel_rfl
theorem q45:TyQ Tryz.prog 45 (some ⟨1,8,.nfunc,.func,[]⟩):=fun ti h=>by cases h; exact⟨y45,.inl rfl⟩
theorem y47:mkTI Tryz.prog 47=some ⟨1,8,.nfunc,.func,[]⟩:=by kernel_rfl
theorem q47:TyQ Tryz.prog 47 (some ⟨1,8,.nfunc,.func,[]⟩):=fun ti h=>by cases h; exact⟨y47,.inl rfl⟩
theorem y48:mkTI Tryz.prog 48=some ⟨1,8,.nfunc,.func,[]⟩:=by kernel_rfl
theorem q48:TyQ Tryz.prog 48 (some ⟨1,8,.nfunc,.func,[]⟩):=fun ti h=>by cases h; exact⟨y48,.inl rfl⟩
theorem y49:mkTI Tryz.prog 49=some ⟨1,8,.nfunc,.func,[]⟩:=by kernel_rfl
theorem q49:TyQ Tryz.prog 49 (some ⟨1,8,.nfunc,.func,[]⟩):=fun ti h=>by cases h; exact⟨y49,.inl rfl⟩
theorem y50:mkTI Tryz.prog 50=some ⟨1,8,.nfunc,.func,[]⟩:=by kernel_rfl
theorem q50:TyQ Tryz.prog 50 (some ⟨1,8,.nfunc,.func,[]⟩):=fun ti h=>by cases h; exact⟨y50,.inl rfl⟩
theorem y51:mkTI Tryz.prog 51=some ⟨1,8,.nfunc,.func,[]⟩:=by kernel_rfl
theorem q51:TyQ Tryz.prog 51 (some ⟨1,8,.nfunc,.func,[]⟩):=fun ti h=>by cases h; exact⟨y51,.inl rfl⟩
theorem y52:mkTI Tryz.prog 52=some ⟨1,8,.nfunc,.func,[]⟩:=by kernel_rfl
theorem q52:TyQ Tryz.prog 52 (some ⟨1,8,.nfunc,.func,[]⟩):=fun ti h=>by cases h; exact⟨y52,.inl rfl⟩
theorem y53:mkTI Tryz.prog 53=some ⟨1,8,.nfunc,.func,[]⟩:=by kernel_rfl
theorem q53:TyQ Tryz.prog 53 (some ⟨1,8,.nfunc,.func,[]⟩):=fun ti h=>by cases h; exact⟨y53,.inl rfl⟩
theorem y55:mkTI Tryz.prog 55=some ⟨1,8,.nfunc,.func,[]⟩:=by kernel_rfl
theorem q55:TyQ Tryz.prog 55 (some ⟨1,8,.nfunc,.func,[]⟩):=fun ti h=>by cases h; exact⟨y55,.inl rfl⟩
theorem y57:mkTI Tryz.prog 57=some ⟨1,8,.nfunc,.func,[]⟩:=by kernel_rfl
theorem q57:TyQ Tryz.prog 57 (some ⟨1,8,.nfunc,.func,[]⟩):=fun ti h=>by cases h; exact⟨y57,.inl rfl⟩
theorem y58:mkTI Tryz.prog 58=some ⟨1,8,.nfunc,.func,[]⟩:=by kernel_rfl
theorem q58:TyQ Tryz.prog 58 (some ⟨1,8,.nfunc,.func,[]⟩):=fun ti h=>by cases h; exact⟨y58,.inl rfl⟩
theorem y59:mkTI Tryz.prog 59=some ⟨1,8,.nfunc,.func,[]⟩:=by kernel_rfl
theorem q59:TyQ Tryz.prog 59 (some ⟨1,8,.nfunc,.func,[]⟩):=fun ti h=>by cases h; exact⟨y59,.inl rfl⟩
theorem y60:mkTI Tryz.prog 60=some ⟨1,8,.nfunc,.func,[]⟩:=by kernel_rfl
theorem q60:TyQ Tryz.prog 60 (some ⟨1,8,.nfunc,.func,[]⟩):=fun ti h=>by cases h; exact⟨y60,.inl rfl⟩
theorem y61:mkTI Tryz.prog 61=some ⟨1,8,.nfunc,.func,[]⟩:=by kernel_rfl
theorem q61:TyQ Tryz.prog 61 (some ⟨1,8,.nfunc,.func,[]⟩):=fun ti h=>by cases h; exact⟨y61,.inl rfl⟩
theorem y62:mkTI Tryz.prog 62=some ⟨1,24,.nslice,(.slice 5),[]⟩:=by kernel_rfl
theorem q62:TyQ Tryz.prog 62 (some ⟨1,24,.nslice,(.slice 5),[]⟩):=fun ti h=>by cases h; exact⟨y62,.inl rfl⟩
theorem y63:mkTI Tryz.prog 63=some ⟨1,8,.nfunc,.func,[]⟩:=by kernel_rfl
theorem q63:TyQ Tryz.prog 63 (some ⟨1,8,.nfunc,.func,[]⟩):=fun ti h=>by cases h; exact⟨y63,.inl rfl⟩
theorem y64:mkTI Tryz.prog 64=some ⟨1,8,.nfunc,.func,[]⟩:=by kernel_rfl
theorem q64:TyQ Tryz.prog 64 (some ⟨1,8,.nfunc,.func,[]⟩):=fun ti h=>by cases h; exact⟨y64,.inl rfl⟩
theorem y65:mkTI Tryz.prog 65=some ⟨1,24,.nslice,(.slice 9),[]⟩:=by kernel_rfl
theorem q65:TyQ Tryz.prog 65 (some ⟨1,24,.nslice,(.slice 9),[]⟩):=fun ti h=>by cases h; exact⟨y65,.inl rfl⟩
theorem y66:mkTI Tryz.prog 66=some ⟨1,8,.nfunc,.func,[]⟩:=by kernel_rfl
theorem q66:TyQ Tryz.prog 66 (some ⟨1,8,.nfunc,.func,[]⟩):=fun ti h=>by cases h; exact⟨y66,.inl rfl⟩
theorem y67:mkTI Tryz.prog 67=some ⟨1,8,.nfunc,.func,[]⟩:=by kernel_rfl
theorem q67:TyQ Tryz.prog 67 (some ⟨1,8,.nfunc,.func,[]⟩):=fun ti h=>by cases h; exact⟨y67,.inl rfl⟩
theorem y69:mkTI Tryz.prog 69=some ⟨1,8,.nfunc,.func,[]⟩:=by kernel_rfl
theorem q69:TyQ Tryz.prog 69 (some ⟨1,8,.nfunc,.func,[]⟩):=fun ti h=>by cases h; exact⟨y69,.inl rfl⟩
theorem y70:mkTI Tryz.prog 70=some ⟨1,8,.nfunc,.func,[]⟩:=by kernel_rfl
theorem q70:TyQ Tryz.prog 70 (some ⟨1,8,.nfunc,.func,[]⟩):=fun ti h=>by cases h; exact⟨y70,.inl rfl⟩
theorem y71:mkTI Tryz.prog 71=some ⟨1,8,.nfunc,.func,[]⟩:=by kernel_rfl
theorem q71:TyQ Tryz.prog 71 (some ⟨1,8,.nfunc,.func,[]⟩):=fun ti h=>by cases h; exact⟨y71,.inl rfl⟩
theorem y72:mkTI Tryz.prog 72=some ⟨1,8,.nfunc,.func,[]⟩:=by kernel_rfl
theorem q72:TyQ Tryz.prog 72 (some ⟨1,8,.nfunc,.func,[]⟩):=fun ti h=>by cases h; exact⟨y72,.inl rfl⟩
theorem y73:mkTI Tryz.prog 73=some ⟨1,24,.nslice,(.slice 40),[]⟩:=by kernel_rfl
theorem q73:TyQ Tryz.prog 73 (some ⟨1,24,.nslice,(.slice 40),[]⟩):=fun ti h=>by cases h; exact⟨y73,.inl rfl⟩
theorem y74:mkTI Tryz.prog 74=some ⟨1,8,.nfunc,.func,[]⟩:=by kernel_rfl
theorem q74:TyQ Tryz.prog 74 (some ⟨1,8,.nfunc,.func,[]⟩):=fun ti h=>by cases h; exact⟨y74,.inl rfl⟩
theorem y75:mkTI Tryz.prog 75=some ⟨1,8,.nfunc,.func,[]⟩:=by kernel_rfl
theorem q75:TyQ Tryz.prog 75 (some ⟨1,8,.nfunc,.func,[]⟩):=fun ti h=>by cases h; exact⟨y75,.inl rfl⟩
theorem y76:mkTI Tryz.prog 76=some ⟨1,8,.nfunc,.func,[]⟩:=by kernel_rfl
theorem q76:TyQ Tryz.prog 76 (some ⟨1,8,.nfunc,.func,[]⟩):=fun ti h=>by cases h; exact⟨y76,.inl rfl⟩
theorem y77:mkTI Tryz.prog 77=some ⟨1,24,.nslice,(.slice 139),[]⟩:=by kernel_rfl
theorem q77:TyQ Tryz.prog 77 (some ⟨1,24,.nslice,(.slice 139),[]⟩):=fun ti h=>by cases h; exact⟨y77,.inl rfl⟩
theorem y78:mkTI Tryz.prog 78=some ⟨1,8,.nfunc,.func,[]⟩:=by kernel_rfl
theorem q78:TyQ Tryz.prog 78 (some ⟨1,8,.nfunc,.func,[]⟩):=fun ti h=>by cases h; exact⟨y78,.inl rfl⟩
theorem y79:mkTI Tryz.prog 79=some ⟨1,8,.nfunc,.func,[]⟩:=by kernel_rfl
theorem q79:TyQ Tryz.prog 79 (some ⟨1,8,.nfunc,.func,[]⟩):=fun ti h=>by cases h; exact⟨y79,.inl rfl⟩
theorem y80:mkTI Tryz.prog 80=some ⟨1,8,.nfunc,.func,[]⟩:=by kernel_rfl
theorem q80:TyQ Tryz.prog 80 (some ⟨1,8,.nfunc,.func,[]⟩):=fun ti h=>by cases h; exact⟨y80,.inl rfl⟩
theorem y82:mkTI Tryz.prog 82=some ⟨1,8,.nfunc,.func,[]⟩:=by kernel_rfl
theorem q82:TyQ Tryz.prog 82 (some ⟨1,8,.nfunc,.func,[]⟩):=fun ti h=>by cases h; exact⟨y82,.inl rfl⟩
theorem y84:mkTI Tryz.prog 84=some ⟨1,8,.nfunc,.func,[]⟩:=by kernel_rfl
theorem q84:TyQ Tryz.prog 84 (some ⟨1,8,.nfunc,.func,[]⟩):=fun ti h=>by cases h; exact⟨y84,.inl rfl⟩
theorem y85:mkTI Tryz.prog 85=some ⟨1,8,.nfunc,.func,[]⟩:=by kernel_rfl
theorem q85:TyQ Tryz.prog 85 (some ⟨1,8,.nfunc,.func,[]⟩):=fun ti h=>by cases h; exact⟨y85,.inl rfl⟩
theorem y86:mkTI Tryz.prog 86=some ⟨1,8,.nfunc,.func,[]⟩:=by kernel_rfl
theorem q86:TyQ Tryz.prog 86 (some ⟨1,8,.nfunc,.func,[]⟩):=fun ti h=>by cases h; exact⟨y86,.inl rfl⟩
theorem y87:mkTI Tryz.prog 87=some ⟨1,8,.nfunc,.func,[]⟩:=by kernel_rfl
theorem q87:TyQ Tryz.prog 87 (some ⟨1,8,.nfunc,.func,[]⟩):=fun ti h=>by cases h; exact⟨y87,.inl rfl⟩
theorem y88:mkTI Tryz.prog 88=some ⟨1,8,.nfunc,.func,[]⟩:=by kernel_rfl
theorem q88:TyQ Tryz.prog 88 (some ⟨1,8,.nfunc,.func,[]⟩):=fun ti h=>by cases h; exact⟨y88,.inl rfl⟩
theorem y89:mkTI Tryz.prog 89=some ⟨1,8,.nfunc,.func,[]⟩:=by kernel_rfl
theorem q89:TyQ Tryz.prog 89 (some ⟨1,8,.nfunc,.func,[]⟩):=fun ti h=>by cases h; exact⟨y89,.inl rfl⟩
theorem y90:mkTI Tryz.prog 90=some ⟨1,8,.nfunc,.func,[]⟩:=by kernel_rfl
theorem q90:TyQ Tryz.prog 90 (some ⟨1,8,.nfunc,.func,[]⟩):=fun ti h=>by cases h; exact⟨y90,.inl rfl⟩
theorem y91:mkTI Tryz.prog 91=some ⟨1,8,.nfunc,.func,[]⟩:=by kernel_rfl
theorem q91:TyQ Tryz.prog 91 (some ⟨1,8,.nfunc,.func,[]⟩):=fun ti h=>by cases h; exact⟨y91,.inl rfl⟩
theorem y92:mkTI Tryz.prog 92=some ⟨1,8,.nfunc,.func,[]⟩:=by kernel_rfl
theorem q92:TyQ Tryz.prog 92 (some ⟨1,8,.nfunc,.func,[]⟩):=fun ti h=>by cases h; exact⟨y92,.inl rfl⟩
theorem y93:mkTI Tryz.prog 93=some ⟨1,8,.nfunc,.func,[]⟩:=by kernel_rfl
theorem q93:TyQ Tryz.prog 93 (some ⟨1,8,.nfunc,.func,[]⟩):=fun ti h=>by cases h; exact⟨y93,.inl rfl⟩
theorem y94:mkTI Tryz.prog 94=some ⟨1,8,.nfunc,.func,[]⟩:=by kernel_rfl
theorem q94:TyQ Tryz.prog 94 (some ⟨1,8,.nfunc,.func,[]⟩):=fun ti h=>by cases h; exact⟨y94,.inl rfl⟩
theorem y95:mkTI Tryz.prog 95=some ⟨1,8,.nfunc,.func,[]⟩:=by kernel_rfl
theorem q95:TyQ Tryz.prog 95 (some ⟨1,8,.nfunc,.func,[]⟩):=fun ti h=>by cases h; exact⟨y95,.inl rfl⟩
theorem y96:mkTI Tryz.prog 96=some ⟨1,8,.nptr,(.ptr 150),[]⟩:=by kernel_rfl
theorem q96:TyQ Tryz.prog 96 (some ⟨1,8,.nptr,(.ptr 150),[]⟩):=fun ti h=>by cases h; exact⟨y96,.inl rfl⟩
theorem y98:mkTI Tryz.prog 98=some ⟨1,8,.nfunc,.func,[]⟩:=by kernel_rfl
theorem q98:TyQ Tryz.prog 98 (some ⟨1,8,.nfunc,.func,[]⟩):=fun ti h=>by cases h; exact⟨y98,.inl rfl⟩
theorem y99:mkTI Tryz.prog 99=some ⟨1,8,.nfunc,.func,[]⟩:=by kernel_rfl
theorem q99:TyQ Tryz.prog 99 (some ⟨1,8,.nfunc,.func,[]⟩):=fun ti h=>by cases h; exact⟨y99,.inl rfl⟩
theorem y100:mkTI Tryz.prog 100=some ⟨1,8,.nfunc,.func,[]⟩:=by kernel_rfl
theorem q100:TyQ Tryz.prog 100 (some ⟨1,8,.nfunc,.func,[]⟩):=fun ti h=>by cases h; exact⟨y100,.inl rfl⟩
theorem y101:mkTI Tryz.prog 101=some ⟨1,8,.nfunc,.func,[]⟩:=by kernel_rfl
theorem q101:TyQ Tryz.prog 101 (some ⟨1,8,.nfunc,.func,[]⟩):=fun ti h=>by cases h; exact⟨y101,.inl rfl⟩
theorem y102:mkTI Tryz.prog 102=some ⟨1,8,.nfunc,.func,[]⟩:=by kernel_rfl
theorem q102:TyQ Tryz.prog 102 (some ⟨1,8,.nfunc,.func,[]⟩):=fun ti h=>by cases h; exact⟨y102,.inl rfl⟩
theorem y103:mkTI Tryz.prog 103=some ⟨8,64,(.agg [(.int .i64 0),(.int .i64 0),(.int .i64 0),(.int .i64 0),(.int .i64 0),(.int .i64 0),(.int .i64 0),(.int .i64 0)]),(.array 8 2),[]⟩:=by kernel_rfl
theorem q103:TyQ Tryz.prog 103 (some ⟨8,64,(.agg [(.int .i64 0),(.int .i64 0),(.int .i64 0),(.int .i64 0),(.int .i64 0),(.int .i64 0),(.int .i64 0),(.int .i64 0)]),(.array 8 2),[]⟩):=fun ti h=>by cases h; exact⟨y103,.inl rfl⟩
theorem y104:mkTI Tryz.prog 104=some ⟨8,64,(.agg [(.int .i64 0),(.int .i64 0),(.int .i64 0),(.int .i64 0),(.int .i64 0),(.int .i64 0),(.int .i64 0),(.int .i64 0)]),(.array 8 2),[]⟩:=by kernel_rfl
theorem z104:flT Tryz.prog 104=(List.replicate 8 .i):=by kernel_rfl
theorem q104:TyQ Tryz.prog 104 (some ⟨8,64,(.agg [(.int .i64 0),(.int .i64 0),(.int .i64 0),(.int .i64 0),(.int .i64 0),(.int .i64 0),(.int .i64 0),(.int .i64 0)]),(.array 8 2),(List.replicate 8 .i)⟩):=fun ti h=>by cases h; exact⟨y104,.inr z104⟩
theorem y105:mkTI Tryz.prog 105=some ⟨1,8,.nfunc,.func,[]⟩:=by kernel_rfl
theorem q105:TyQ Tryz.prog 105 (some ⟨1,8,.nfunc,.func,[]⟩):=fun ti h=>by cases h; exact⟨y105,.inl rfl⟩
theorem y106:mkTI Tryz.prog 106=some ⟨1,8,.nfunc,.func,[]⟩:=by kernel_rfl
theorem q106:TyQ Tryz.prog 106 (some ⟨1,8,.nfunc,.func,[]⟩):=fun ti h=>by cases h; exact⟨y106,.inl rfl⟩
theorem y107:mkTI Tryz.prog 107=some ⟨1,8,.nfunc,.func,[]⟩:=by kernel_rfl
theorem q107:TyQ Tryz.prog 107 (some ⟨1,8,.nfunc,.func,[]⟩):=fun ti h=>by cases h; exact⟨y107,.inl rfl⟩
theorem y108:mkTI Tryz.prog 108=some ⟨1,8,.nfunc,.func,[]⟩:=by kernel_rfl
theorem q108:TyQ Tryz.prog 108 (some ⟨1,8,.nfunc,.func,[]⟩):=fun ti h=>by cases h; exact⟨y108,.inl rfl⟩
theorem y109:mkTI Tryz.prog 109=some ⟨1,8,.nfunc,.func,[]⟩:=by kernel_rfl
theorem q109:TyQ Tryz.prog 109 (some ⟨1,8,.nfunc,.func,[]⟩):=fun ti h=>by cases h; exact⟨y109,.inl rfl⟩
theorem y110:mkTI Tryz.prog 110=some ⟨1,8,.nfunc,.func,[]⟩:=by kernel_rfl
theorem q110:TyQ Tryz.prog 110 (some ⟨1,8,.nfunc,.func,[]⟩):=fun ti h=>by cases h; exact⟨y110,.inl rfl⟩
theorem y112:mkTI Tryz.prog 112=some ⟨1,8,.nfunc,.func,[]⟩:=by kernel_rfl
theorem q112:TyQ Tryz.prog 112 (some ⟨1,8,.nfunc,.func,[]⟩):=fun ti h=>by cases h; exact⟨y112,.inl rfl⟩
theorem y113:mkTI Tryz.prog 113=some ⟨1,8,.nptr,(.ptr 115),[]⟩:=by kernel_rfl
theorem q113:TyQ Tryz.prog 113 (some ⟨1,8,.nptr,(.ptr 115),[]⟩):=fun ti h=>by cases h; exact⟨y113,.inl rfl⟩
theorem y114:mkTI Tryz.prog 114=some ⟨2,32,(.agg [.nptr,.nslice]),(.strct [(0,113,1),(1,62,1)]),[]⟩:=by kernel_rfl
theorem q114:TyQ Tryz.prog 114 (some ⟨2,32,(.agg [.nptr,.nslice]),(.strct [(0,113,1),(1,62,1)]),[]⟩):=fun ti h=>by cases h; exact⟨y114,.inl rfl⟩
theorem y115:mkTI Tryz.prog 115=some ⟨2,32,(.agg [.nptr,.nslice]),(.strct [(0,113,1),(1,62,1)]),[]⟩:=by kernel_rfl
theorem q115:TyQ Tryz.prog 115 (some ⟨2,32,(.agg [.nptr,.nslice]),(.strct [(0,113,1),(1,62,1)]),[]⟩):=fun ti h=>by cases h; exact⟨y115,.inl rfl⟩
theorem y116:mkTI Tryz.prog 116=some ⟨1,16,.niface,.iface,[]⟩:=by kernel_rfl
theorem q116:TyQ Tryz.prog 116 (some ⟨1,16,.niface,.iface,[]⟩):=fun ti h=>by cases h; exact⟨y116,.inl rfl⟩
theorem y117:mkTI Tryz.prog 117=some ⟨1,16,.niface,.iface,[]⟩:=by kernel_rfl
theorem q117:TyQ Tryz.prog 117 (some ⟨1,16,.niface,.iface,[]⟩):=fun ti h=>by cases h; exact⟨y117,.inl rfl⟩
theorem y119:mkTI Tryz.prog 119=some ⟨1,8,.nfunc,.func,[]⟩:=by kernel_rfl
theorem q119:TyQ Tryz.prog 119 (some ⟨1,8,.nfunc,.func,[]⟩):=fun ti h=>by cases h; exact⟨y119,.inl rfl⟩
theorem y120:mkTI Tryz.prog 120=some ⟨1,8,.nfunc,.func,[]⟩:=by kernel_rfl
theorem q120:TyQ Tryz.prog 120 (some ⟨1,8,.nfunc,.func,[]⟩):=fun ti h=>by cases h; exact⟨y120,.inl rfl⟩
theorem y121:mkTI Tryz.prog 121=some ⟨1,8,.nfunc,.func,[]⟩:=by kernel_rfl
theorem q121:TyQ Tryz.prog 121 (some ⟨1,8,.nfunc,.func,[]⟩):=fun ti h=>by cases h; exact⟨y121,.inl rfl⟩
theorem y122:mkTI Tryz.prog 122=some ⟨1,8,.nfunc,.func,[]⟩:=by kernel_rfl
theorem q122:TyQ Tryz.prog 122 (some ⟨1,8,.nfunc,.func,[]⟩):=fun ti h=>by cases h; exact⟨y122,.inl rfl⟩
theorem y123:mkTI Tryz.prog 123=some ⟨1,8,.nfunc,.func,[]⟩:=by kernel_rfl
theorem q123:TyQ Tryz.prog 123 (some ⟨1,8,.nfunc,.func,[]⟩):=fun ti h=>by cases h; exact⟨y123,.inl rfl⟩
theorem y125:mkTI Tryz.prog 125=some ⟨1,8,.nfunc,.func,[]⟩:=by kernel_rfl
theorem q125:TyQ Tryz.prog 125 (some ⟨1,8,.nfunc,.func,[]⟩):=fun ti h=>by cases h; exact⟨y125,.inl rfl⟩
theorem y126:mkTI Tryz.prog 126=some ⟨1,8,.nfunc,.func,[]⟩:=by kernel_rfl
theorem q126:TyQ Tryz.prog 126 (some ⟨1,8,.nfunc,.func,[]⟩):=fun ti h=>by cases h; exact⟨y126,.inl rfl⟩
theorem y128:mkTI Tryz.prog 128=some ⟨1,8,.nfunc,.func,[]⟩:=by kernel_rfl
theorem q128:TyQ Tryz.prog 128 (some ⟨1,8,.nfunc,.func,[]⟩):=fun ti h=>by cases h; exact⟨y128,.inl rfl⟩
theorem y129:mkTI Tryz.prog 129=some ⟨1,8,.nfunc,.func,[]⟩:=by kernel_rfl
theorem q129:TyQ Tryz.prog 129 (some ⟨1,8,.nfunc,.func,[]⟩):=fun ti h=>by cases h; exact⟨y129,.inl rfl⟩
theorem y130:mkTI Tryz.prog 130=some ⟨1,8,.nfunc,.func,[]⟩:=by kernel_rfl
theorem q130:TyQ Tryz.prog 130 (some ⟨1,8,.nfunc,.func,[]⟩):=fun ti h=>by cases h; exact⟨y130,.inl rfl⟩
theorem y131:mkTI Tryz.prog 131=some ⟨1,8,.nfunc,.func,[]⟩:=by kernel_rfl
theorem q131:TyQ Tryz.prog 131 (some ⟨1,8,.nfunc,.func,[]⟩):=fun ti h=>by cases h; exact⟨y131,.inl rfl⟩
theorem y132:mkTI Tryz.prog 132=some ⟨1,8,.nfunc,.func,[]⟩:=by kernel_rfl
theorem q132:TyQ Tryz.prog 132 (some ⟨1,8,.nfunc,.func,[]⟩):=fun ti h=>by cases h; exact⟨y132,.inl rfl⟩
theorem y133:mkTI Tryz.prog 133=some ⟨1,8,.nfunc,.func,[]⟩:=by kernel_rfl
theorem q133:TyQ Tryz.prog 133 (some ⟨1,8,.nfunc,.func,[]⟩):=fun ti h=>by cases h; exact⟨y133,.inl rfl⟩
theorem y134:mkTI Tryz.prog 134=some ⟨1,8,.nfunc,.func,[]⟩:=by kernel_rfl
theorem q134:TyQ Tryz.prog 134 (some ⟨1,8,.nfunc,.func,[]⟩):=fun ti h=>by cases h; exact⟨y134,.inl rfl⟩
theorem y135:mkTI Tryz.prog 135=some ⟨1,8,.nfunc,.func,[]⟩:=by kernel_rfl
theorem q135:TyQ Tryz.prog 135 (some ⟨1,8,.nfunc,.func,[]⟩):=fun ti h=>by cases h; exact⟨y135,.inl rfl⟩
theorem y136:mkTI Tryz.prog 136=some ⟨1,8,.nfunc,.func,[]⟩:=by kernel_rfl
theorem q136:TyQ Tryz.prog 136 (some ⟨1,8,.nfunc,.func,[]⟩):=fun ti h=>by cases h; exact⟨y136,.inl rfl⟩
theorem y137:mkTI Tryz.prog 137=some ⟨1,8,.nfunc,.func,[]⟩:=by kernel_rfl
theorem q137:TyQ Tryz.prog 137 (some ⟨1,8,.nfunc,.func,[]⟩):=fun ti h=>by cases h; exact⟨y137,.inl rfl⟩
theorem y138:mkTI Tryz.prog 138=some ⟨3,24,(.agg [(.int .i64 0),(.int .i64 0),(.int .i64 0)]),(.strct [(0,3,1),(1,3,1),(2,2,1)]),[]⟩:=by kernel_rfl
theorem q138:TyQ Tryz.prog 138 (some ⟨3,24,(.agg [(.int .i64 0),(.int .i64 0),(.int .i64 0)]),(.strct [(0,3,1),(1,3,1),(2,2,1)]),[]⟩):=fun ti h=>by cases h; exact⟨y138,.inl rfl⟩
theorem y139:mkTI Tryz.prog 139=some ⟨3,24,(.agg [(.int .i64 0),(.int .i64 0),(.int .i64 0)]),(.strct [(0,3,1),(1,3,1),(2,2,1)]),[]⟩:=by kernel_rfl
theorem q139:TyQ Tryz.prog 139 (some ⟨3,24,(.agg [(.int .i64 0),(.int .i64 0),(.int .i64 0)]),(.strct [(0,3,1),(1,3,1),(2,2,1)]),[]⟩):=fun ti h=>by cases h; exact⟨y139,.inl rfl⟩
theorem y140:mkTI Tryz.prog 140=some ⟨1,8,.nfunc,.func,[]⟩:=by kernel_rfl
theorem q140:TyQ Tryz.prog 140 (some ⟨1,8,.nfunc,.func,[]⟩):=fun ti h=>by cases h; exact⟨y140,.inl rfl⟩
theorem y141:mkTI Tryz.prog 141=some ⟨1,8,.nfunc,.func,[]⟩:=by kernel_rfl
theorem q141:TyQ Tryz.prog 141 (some ⟨1,8,.nfunc,.func,[]⟩):=fun ti h=>by cases h; exact⟨y141,.inl rfl⟩
theorem y142:mkTI Tryz.prog 142=some ⟨1,8,.nfunc,.func,[]⟩:=by kernel_rfl
theorem q142:TyQ Tryz.prog 142 (some ⟨1,8,.nfunc,.func,[]⟩):=fun ti h=>by cases h; exact⟨y142,.inl rfl⟩
theorem y143:mkTI Tryz.prog 143=some ⟨1,8,.nfunc,.func,[]⟩:=by kernel_rfl
theorem q143:TyQ Tryz.prog 143 (some ⟨1,8,.nfunc,.func,[]⟩):=fun ti h=>by cases h; exact⟨y143,.inl rfl⟩
theorem y144:mkTI Tryz.prog 144=some ⟨1,8,.nfunc,.func,[]⟩:=by kernel_rfl
theorem q144:TyQ Tryz.prog 144 (some ⟨1,8,.nfunc,.func,[]⟩):=fun ti h=>by cases h; exact⟨y144,.inl rfl⟩
theorem y145:mkTI Tryz.prog 145=some ⟨1,8,.nfunc,.func,[]⟩:=by kernel_rfl
theorem q145:TyQ Tryz.prog 145 (some ⟨1,8,.nfunc,.func,[]⟩):=fun ti h=>by cases h; exact⟨y145,.inl rfl⟩
theorem y146:mkTI Tryz.prog 146=some ⟨1,8,.nfunc,.func,[]⟩:=by kernel_rfl
theorem q146:TyQ Tryz.prog 146 (some ⟨1,8,.nfunc,.func,[]⟩):=fun ti h=>by cases h; exact⟨y146,.inl rfl⟩
theorem y147:mkTI Tryz.prog 147=some ⟨1,8,.nfunc,.func,[]⟩:=by kernel_rfl
theorem q147:TyQ Tryz.prog 147 (some ⟨1,8,.nfunc,.func,[]⟩):=fun ti h=>by cases h; exact⟨y147,.inl rfl⟩
theorem y148:mkTI Tryz.prog 148=some ⟨1,8,.nfunc,.func,[]⟩:=by kernel_rfl
theorem q148:TyQ Tryz.prog 148 (some ⟨1,8,.nfunc,.func,[]⟩):=fun ti h=>by cases h; exact⟨y148,.inl rfl⟩
theorem y149:mkTI Tryz.prog 149=some ⟨3,40,(.agg [(.int .i64 0),(.int .i64 0),.nslice]),(.strct [(0,24,3)]),[]⟩:=by kernel_rfl
theorem q149:TyQ Tryz.prog 149 (some ⟨3,40,(.agg [(.int .i64 0),(.int .i64 0),.nslice]),(.strct [(0,24,3)]),[]⟩):=fun ti h=>by cases h; exact⟨y149,.inl rfl⟩
theorem y150:mkTI Tryz.prog 150=some ⟨3,40,(.agg [(.int .i64 0),(.int .i64 0),.nslice]),(.strct [(0,24,3)]),[]⟩:=by kernel_rfl
theorem q150:TyQ Tryz.prog 150 (some ⟨3,40,(.agg [(.int .i64 0),(.int .i64 0),.nslice]),(.strct [(0,24,3)]),[]⟩):=fun ti h=>by cases h; exact⟨y150,.inl rfl⟩
theorem y151:mkTI Tryz.prog 151=some ⟨1,8,.nfunc,.func,[]⟩:=by kernel_rfl
theorem q151:TyQ Tryz.prog 151 (some ⟨1,8,.nfunc,.func,[]⟩):=fun ti h=>by cases h; exact⟨y151,.inl rfl⟩
theorem y152:mkTI Tryz.prog 152=some ⟨1,8,.nfunc,.func,[]⟩:=by kernel_rfl
theorem q152:TyQ Tryz.prog 152 (some ⟨1,8,.nfunc,.func,[]⟩):=fun ti h=>by cases h; exact⟨y152,.inl rfl⟩
theorem y153:mkTI Tryz.prog 153=some ⟨1,8,.nfunc,.func,[]⟩:=by kernel_rfl
theorem q153:TyQ Tryz.prog 153 (some ⟨1,8,.nfunc,.func,[]⟩):=fun ti h=>by cases h; exact⟨y153,.inl rfl⟩
theorem y154:mkTI Tryz.prog 154=some ⟨1,8,.nfunc,.func,[]⟩:=by kernel_rfl
theorem q154:TyQ Tryz.prog 154 (some ⟨1,8,.nfunc,.func,[]⟩):=fun ti h=>by cases h; exact⟨y154,.inl rfl⟩
theorem y155:mkTI Tryz.prog 155=some ⟨1,8,.nptr,(.ptr 5),[]⟩:=by kernel_rfl
theorem q155:TyQ Tryz.prog 155 (some ⟨1,8,.nptr,(.ptr 5),[]⟩):=fun ti h=>by cases h; exact⟨y155,.inl rfl⟩
theorem y156:mkTI Tryz.prog 156=some ⟨1,8,.nfunc,.func,[]⟩:=by kernel_rfl
theorem q156:TyQ Tryz.prog 156 (some ⟨1,8,.nfunc,.func,[]⟩):=fun ti h=>by cases h; exact⟨y156,.inl rfl⟩
theorem y157:mkTI Tryz.prog 157=some ⟨1,8,.nfunc,.func,[]⟩:=by kernel_rfl
theorem q157:TyQ Tryz.prog 157 (some ⟨1,8,.nfunc,.func,[]⟩):=fun ti h=>by cases h; exact⟨y157,.inl rfl⟩
theorem y158:mkTI Tryz.prog 158=some ⟨1,8,.nfunc,.func,[]⟩:=by kernel_rfl
theorem q158:TyQ Tryz.prog 158 (some ⟨1,8,.nfunc,.func,[]⟩):=fun ti h=>by cases h; exact⟨y158,.inl rfl⟩
theorem y159:mkTI Tryz.prog 159=some ⟨1,8,.nfunc,.func,[]⟩:=by kernel_rfl
theorem q159:TyQ Tryz.prog 159 (some ⟨1,8,.nfunc,.func,[]⟩):=fun ti h=>by cases h; exact⟨y159,.inl rfl⟩
theorem y160:mkTI Tryz.prog 160=some ⟨1,8,.nmap,(.map 162 2),[]⟩:=by kernel_rfl
theorem q160:TyQ Tryz.prog 160 (some ⟨1,8,.nmap,(.map 162 2),[]⟩):=fun ti h=>by cases h; exact⟨y160,.inl rfl⟩
theorem y161:mkTI Tryz.prog 161=some ⟨1,8,(.agg [(.int .i64 0)]),(.strct [(0,3,1)]),[]⟩:=by kernel_rfl
theorem q161:TyQ Tryz.prog 161 (some ⟨1,8,(.agg [(.int .i64 0)]),(.strct [(0,3,1)]),[]⟩):=fun ti h=>by cases h; exact⟨y161,.inl rfl⟩
theorem y162:mkTI Tryz.prog 162=some ⟨1,8,(.agg [(.int .i64 0)]),(.strct [(0,3,1)]),[]⟩:=by kernel_rfl
theorem z162:flT Tryz.prog 162=[.i]:=by kernel_rfl
theorem q162:TyQ Tryz.prog 162 (some ⟨1,8,(.agg [(.int .i64 0)]),(.strct [(0,3,1)]),[.i]⟩):=fun ti h=>by cases h; exact⟨y162,.inr z162⟩
theorem y163:mkTI Tryz.prog 163=some ⟨1,24,.nslice,(.slice 162),[]⟩:=by kernel_rfl
theorem q163:TyQ Tryz.prog 163 (some ⟨1,24,.nslice,(.slice 162),[]⟩):=fun ti h=>by cases h; exact⟨y163,.inl rfl⟩
theorem y164:mkTI Tryz.prog 164=some ⟨1,8,.nfunc,.func,[]⟩:=by kernel_rfl
theorem q164:TyQ Tryz.prog 164 (some ⟨1,8,.nfunc,.func,[]⟩):=fun ti h=>by cases h; exact⟨y164,.inl rfl⟩
theorem y165:mkTI Tryz.prog 165=some ⟨1,8,.nmap,(.map 162 163),[]⟩:=by kernel_rfl
theorem q165:TyQ Tryz.prog 165 (some ⟨1,8,.nmap,(.map 162 163),[]⟩):=fun ti h=>by cases h; exact⟨y165,.inl rfl⟩
theorem y166:mkTI Tryz.prog 166=some ⟨1,8,.nfunc,.func,[]⟩:=by kernel_rfl
theorem q166:TyQ Tryz.prog 166 (some ⟨1,8,.nfunc,.func,[]⟩):=fun ti h=>by cases h; exact⟨y166,.inl rfl⟩
theorem y167:mkTI Tryz.prog 167=some ⟨1,8,.nfunc,.func,[]⟩:=by kernel_rfl
theorem q167:TyQ Tryz.prog 167 (some ⟨1,8,.nfunc,.func,[]⟩):=fun ti h=>by cases h; exact⟨y167,.inl rfl⟩
theorem y168:mkTI Tryz.prog 168=some ⟨1,8,.nfunc,.func,[]⟩:=by kernel_rfl
theorem q168:TyQ Tryz.prog 168 (some ⟨1,8,.nfunc,.func,[]⟩):=fun ti h=>by cases h; exact⟨y168,.inl rfl⟩
theorem y169:mkTI Tryz.prog 169=some ⟨1,8,.nfunc,.func,[]⟩:=by kernel_rfl
theorem q169:TyQ Tryz.prog 169 (some ⟨1,8,.nfunc,.func,[]⟩):=fun ti h=>by cases h; exact⟨y169,.inl rfl⟩
theorem y170:mkTI Tryz.prog 170=some ⟨1,8,.nfunc,.func,[]⟩:=by kernel_rfl
theorem q170:TyQ Tryz.prog 170 (some ⟨1,8,.nfunc,.func,[]⟩):=fun ti h=>by cases h; exact⟨y170,.inl rfl⟩
theorem y171:mkTI Tryz.prog 171=some ⟨1,8,.nfunc,.func,[]⟩:=by kernel_rfl
theorem q171:TyQ Tryz.prog 171 (some ⟨1,8,.nfunc,.func,[]⟩):=fun ti h=>by cases h; exact⟨y171,.inl rfl⟩
theorem y172:mkTI Tryz.prog 172=some ⟨1,8,.nptr,(.ptr 104),[]⟩:=by kernel_rfl
theorem q172:TyQ Tryz.prog 172 (some ⟨1,8,.nptr,(.ptr 104),[]⟩):=fun ti h=>by cases h; exact⟨y172,.inl rfl⟩
theorem y173:mkTI Tryz.prog 173=some ⟨1,8,.nfunc,.func,[]⟩:=by kernel_rfl
theorem q173:TyQ Tryz.prog 173 (some ⟨1,8,.nfunc,.func,[]⟩):=fun ti h=>by cases h; exact⟨y173,.inl rfl⟩
theorem y174:mkTI Tryz.prog 174=some ⟨1,8,.nfunc,.func,[]⟩:=by kernel_rfl
theorem q174:TyQ Tryz.prog 174 (some ⟨1,8,.nfunc,.func,[]⟩):=fun ti h=>by cases h; exact⟨y174,.inl rfl⟩
theorem y175:mkTI Tryz.prog 175=some ⟨1,8,.nfunc,.func,[]⟩:=by kernel_rfl
theorem q175:TyQ Tryz.prog 175 (some ⟨1,8,.nfunc,.func,[]⟩):=fun ti h=>by cases h; exact⟨y175,.inl rfl⟩
theorem y176:mkTI Tryz.prog 176=some ⟨256,256,(.agg (rep 256 [(.bool false)])),(.array 256 4),[]⟩:=by kernel_rfl
theorem q176:TyQ Tryz.prog 176 (some ⟨256,256,(.agg (rep 256 [(.bool false)])),(.array 256 4),[]⟩):=fun ti h=>by cases h; exact⟨y176,.inl rfl⟩
theorem y177:mkTI Tryz.prog 177=some ⟨256,256,(.agg (rep 256 [(.bool false)])),(.array 256 4),[]⟩:=by kernel_rfl
theorem q177:TyQ Tryz.prog 177 (some ⟨256,256,(.agg (rep 256 [(.bool false)])),(.array 256 4),[]⟩):=fun ti h=>by cases h; exact⟨y177,.inl rfl⟩
theorem y179:mkTI Tryz.prog 179=some ⟨1,8,.nfunc,.func,[]⟩:=by kernel_rfl
theorem q179:TyQ Tryz.prog 179 (some ⟨1,8,.nfunc,.func,[]⟩):=fun ti h=>by cases h; exact⟨y179,.inl rfl⟩
theorem y180:mkTI Tryz.prog 180=some ⟨1,8,.nfunc,.func,[]⟩:=by kernel_rfl
theorem q180:TyQ Tryz.prog 180 (some ⟨1,8,.nfunc,.func,[]⟩):=fun ti h=>by cases h; exact⟨y180,.inl rfl⟩
theorem y181:mkTI Tryz.prog 181=some ⟨1,8,.nptr,(.ptr 177),[]⟩:=by kernel_rfl
theorem q181:TyQ Tryz.prog 181 (some ⟨1,8,.nptr,(.ptr 177),[]⟩):=fun ti h=>by cases h; exact⟨y181,.inl rfl⟩
theorem y182:mkTI Tryz.prog 182=some ⟨1,8,.nptr,.other,[]⟩:=by kernel_rfl
theorem q182:TyQ Tryz.prog 182 (some ⟨1,8,.nptr,.other,[]⟩):=fun ti h=>by cases h; exact⟨y182,.inl rfl⟩
theorem y183:mkTI Tryz.prog 183=some ⟨1,8,.nfunc,.func,[]⟩:=by kernel_rfl
theorem q183:TyQ Tryz.prog 183 (some ⟨1,8,.nfunc,.func,[]⟩):=fun ti h=>by cases h; exact⟨y183,.inl rfl⟩
theorem y184:mkTI Tryz.prog 184=some ⟨1,8,.nfunc,.func,[]⟩:=by kernel_rfl
theorem q184:TyQ Tryz.prog 184 (some ⟨1,8,.nfunc,.func,[]⟩):=fun ti h=>by cases h; exact⟨y184,.inl rfl⟩
theorem y185:mkTI Tryz.prog 185=some ⟨1,8,.nfunc,.func,[]⟩:=by kernel_rfl
theorem q185:TyQ Tryz.prog 185 (some ⟨1,8,.nfunc,.func,[]⟩):=fun ti h=>by cases h; exact⟨y185,.inl rfl⟩
theorem y186:mkTI Tryz.prog 186=some ⟨1,8,.nfunc,.func,[]⟩:=by kernel_rfl
theorem q186:TyQ Tryz.prog 186 (some ⟨1,8,.nfunc,.func,[]⟩):=fun ti h=>by cases h; exact⟨y186,.inl rfl⟩
theorem y187:mkTI Tryz.prog 187=some ⟨1,8,.nfunc,.func,[]⟩:=by kernel_rfl
theorem q187:TyQ Tryz.prog 187 (some ⟨1,8,.nfunc,.func,[]⟩):=fun ti h=>by cases h; exact⟨y187,.inl rfl⟩
theorem y189:mkTI Tryz.prog 189=some ⟨1,24,.nslice,(.slice 163),[]⟩:=by kernel_rfl
theorem q189:TyQ Tryz.prog 189 (some ⟨1,24,.nslice,(.slice 163),[]⟩):=fun ti h=>by cases h; exact⟨y189,.inl rfl⟩
theorem y191:mkTI Tryz.prog 191=some ⟨1,8,.nfunc,.func,[]⟩:=by kernel_rfl
theorem q191:TyQ Tryz.prog 191 (some ⟨1,8,.nfunc,.func,[]⟩):=fun ti h=>by cases h; exact⟨y191,.inl rfl⟩
theorem y192:mkTI Tryz.prog 192=some ⟨1,8,.nfunc,.func,[]⟩:=by kernel_rfl
theorem q192:TyQ Tryz.prog 192 (some ⟨1,8,.nfunc,.func,[]⟩):=fun ti h=>by cases h; exact⟨y192,.inl rfl⟩
theorem y193:mkTI Tryz.prog 193=some ⟨1,8,.nfunc,.func,[]⟩:=by kernel_rfl
theorem q193:TyQ Tryz.prog 193 (some ⟨1,8,.nfunc,.func,[]⟩):=fun ti h=>by cases h; exact⟨y193,.inl rfl⟩
theorem y194:mkTI Tryz.prog 194=some ⟨1,8,.nfunc,.func,[]⟩:=by kernel_rfl
theorem q194:TyQ Tryz.prog 194 (some ⟨1,8,.nfunc,.func,[]⟩):=fun ti h=>by cases h; exact⟨y194,.inl rfl⟩
theorem y195:mkTI Tryz.prog 195=some ⟨1,8,.nfunc,.func,[]⟩:=by kernel_rfl
theorem q195:TyQ Tryz.prog 195 (some ⟨1,8,.nfunc,.func,[]⟩):=fun ti h=>by cases h; exact⟨y195,.inl rfl⟩
theorem y196:mkTI Tryz.prog 196=some ⟨1,8,(.int .u64 0),(.int .u64),[]⟩:=by kernel_rfl
theorem q196:TyQ Tryz.prog 196 (some ⟨1,8,(.int .u64 0),(.int .u64),[]⟩):=fun ti h=>by cases h; exact⟨y196,.inl rfl⟩
theorem y197:mkTI Tryz.prog 197=some ⟨1,8,.nfunc,.func,[]⟩:=by kernel_rfl
theorem q197:TyQ Tryz.prog 197 (some ⟨1,8,.nfunc,.func,[]⟩):=fun ti h=>by cases h; exact⟨y197,.inl rfl⟩
theorem y198:mkTI Tryz.prog 198=some ⟨1,8,.nfunc,.func,[]⟩:=by kernel_rfl
theorem q198:TyQ Tryz.prog 198 (some ⟨1,8,.nfunc,.func,[]⟩):=fun ti h=>by cases h; exact⟨y198,.inl rfl⟩
theorem y199:mkTI Tryz.prog 199=some ⟨1,8,.nfunc,.func,[]⟩:=by kernel_rfl
theorem q199:TyQ Tryz.prog 199 (some ⟨1,8,.nfunc,.func,[]⟩):=fun ti h=>by cases h; exact⟨y199,.inl rfl⟩
theorem y200:mkTI Tryz.prog 200=some ⟨1,8,.nfunc,.func,[]⟩:=by kernel_rfl
theorem q200:TyQ Tryz.prog 200 (some ⟨1,8,.nfunc,.func,[]⟩):=fun ti h=>by cases h; exact⟨y200,.inl rfl⟩
theorem y202:mkTI Tryz.prog 202=some ⟨1,8,.nfunc,.func,[]⟩:=by kernel_rfl
theorem q202:TyQ Tryz.prog 202 (some ⟨1,8,.nfunc,.func,[]⟩):=fun ti h=>by cases h; exact⟨y202,.inl rfl⟩
theorem y203:mkTI Tryz.prog 203=some ⟨1,8,.nfunc,.func,[]⟩:=by kernel_rfl
theorem q203:TyQ Tryz.prog 203 (some ⟨1,8,.nfunc,.func,[]⟩):=fun ti h=>by cases h; exact⟨y203,.inl rfl⟩
theorem y204:mkTI Tryz.prog 204=some ⟨24,24,(.agg (rep 24 [(.int .u8 0)])),(.array 24 5),[]⟩:=by kernel_rfl
theorem q204:TyQ Tryz.prog 204 (some ⟨24,24,(.agg (rep 24 [(.int .u8 0)])),(.array 24 5),[]⟩):=fun ti h=>by cases h; exact⟨y204,.inl rfl⟩
theorem y205:mkTI Tryz.prog 205=some ⟨1,8,(.int .u64 0),(.int .u64),[]⟩:=by kernel_rfl
theorem q205:TyQ Tryz.prog 205 (some ⟨1,8,(.int .u64 0),(.int .u64),[]⟩):=fun ti h=>by cases h; exact⟨y205,.inl rfl⟩
theorem y206:mkTI Tryz.prog 206=some ⟨1,8,.nfunc,.func,[]⟩:=by kernel_rfl
theorem q206:TyQ Tryz.prog 206 (some ⟨1,8,.nfunc,.func,[]⟩):=fun ti h=>by cases h; exact⟨y206,.inl rfl⟩
theorem y207:mkTI Tryz.prog 207=some ⟨1,8,.nfunc,.func,[]⟩:=by kernel_rfl
theorem q207:TyQ Tryz.prog 207 (some ⟨1,8,.nfunc,.func,[]⟩):=fun ti h=>by cases h; exact⟨y207,.inl rfl⟩
theorem y209:mkTI Tryz.prog 209=some ⟨1,8,.nfunc,.func,[]⟩:=by kernel_rfl
theorem q209:TyQ Tryz.prog 209 (some ⟨1,8,.nfunc,.func,[]⟩):=fun ti h=>by cases h; exact⟨y209,.inl rfl⟩
theorem y210:mkTI Tryz.prog 210=some ⟨1,8,.nfunc,.func,[]⟩:=by kernel_rfl
theorem q210:TyQ Tryz.prog 210 (some ⟨1,8,.nfunc,.func,[]⟩):=fun ti h=>by cases h; exact⟨y210,.inl rfl⟩
theorem y211:mkTI Tryz.prog 211=some ⟨1,8,(.int .i64 0),(.int .i64),[]⟩:=by kernel_rfl
theorem q211:TyQ Tryz.prog 211 (some ⟨1,8,(.int .i64 0),(.int .i64),[]⟩):=fun ti h=>by cases h; exact⟨y211,.inl rfl⟩
theorem y213:mkTI Tryz.prog 213=some ⟨1,8,.nfunc,.func,[]⟩:=by kernel_rfl
theorem q213:TyQ Tryz.prog 213 (some ⟨1,8,.nfunc,.func,[]⟩):=fun ti h=>by cases h; exact⟨y213,.inl rfl⟩
theorem y214:mkTI Tryz.prog 214=some ⟨1,8,.nptr,(.ptr 242),[]⟩:=by kernel_rfl
theorem q214:TyQ Tryz.prog 214 (some ⟨1,8,.nptr,(.ptr 242),[]⟩):=fun ti h=>by cases h; exact⟨y214,.inl rfl⟩
theorem y215:mkTI Tryz.prog 215=some ⟨1,8,.nfunc,.func,[]⟩:=by kernel_rfl
theorem q215:TyQ Tryz.prog 215 (some ⟨1,8,.nfunc,.func,[]⟩):=fun ti h=>by cases h; exact⟨y215,.inl rfl⟩
theorem y216:mkTI Tryz.prog 216=some ⟨1,8,.nfunc,.func,[]⟩:=by kernel_rfl
theorem q216:TyQ Tryz.prog 216 (some ⟨1,8,.nfunc,.func,[]⟩):=fun ti h=>by cases h; exact⟨y216,.inl rfl⟩
theorem y217:mkTI Tryz.prog 217=some ⟨1,8,.nfunc,.func,[]⟩:=by kernel_rfl
theorem q217:TyQ Tryz.prog 217 (some ⟨1,8,.nfunc,.func,[]⟩):=fun ti h=>by cases h; exact⟨y217,.inl rfl⟩
theorem y218:mkTI Tryz.prog 218=some ⟨1,8,.nfunc,.func,[]⟩:=by kernel_rfl
theorem q218:TyQ Tryz.prog 218 (some ⟨1,8,.nfunc,.func,[]⟩):=fun ti h=>by cases h; exact⟨y218,.inl rfl⟩
theorem y219:mkTI Tryz.prog 219=some ⟨1,8,(.int .i64 0),(.int .i64),[]⟩:=by kernel_rfl
theorem q219:TyQ Tryz.prog 219 (some ⟨1,8,(.int .i64 0),(.int .i64),[]⟩):=fun ti h=>by cases h; exact⟨y219,.inl rfl⟩
theorem y221:mkTI Tryz.prog 221=some ⟨1,8,.nfunc,.func,[]⟩:=by kernel_rfl
theorem q221:TyQ Tryz.prog 221 (some ⟨1,8,.nfunc,.func,[]⟩):=fun ti h=>by cases h; exact⟨y221,.inl rfl⟩
theorem y222:mkTI Tryz.prog 222=some ⟨1,8,.nfunc,.func,[]⟩:=by kernel_rfl
theorem q222:TyQ Tryz.prog 222 (some ⟨1,8,.nfunc,.func,[]⟩):=fun ti h=>by cases h; exact⟨y222,.inl rfl⟩
theorem y223:mkTI Tryz.prog 223=some ⟨1,8,.nfunc,.func,[]⟩:=by kernel_rfl
theorem q223:TyQ Tryz.prog 223 (some ⟨1,8,.nfunc,.func,[]⟩):=fun ti h=>by cases h; exact⟨y223,.inl rfl⟩
theorem y225:mkTI Tryz.prog 225=some ⟨1,8,.nfunc,.func,[]⟩:=by kernel_rfl
theorem q225:TyQ Tryz.prog 225 (some ⟨1,8,.nfunc,.func,[]⟩):=fun ti h=>by cases h; exact⟨y225,.inl rfl⟩
theorem y226:mkTI Tryz.prog 226=some ⟨1,8,.nfunc,.func,[]⟩:=by kernel_rfl
theorem q226:TyQ Tryz.prog 226 (some ⟨1,8,.nfunc,.func,[]⟩):=fun ti h=>by cases h; exact⟨y226,.inl rfl⟩
theorem y227:mkTI Tryz.prog 227=some ⟨1,4,(.int .u32 0),(.int .u32),[]⟩:=by kernel_rfl
theorem q227:TyQ Tryz.prog 227 (some ⟨1,4,(.int .u32 0),(.int .u32),[]⟩):=fun ti h=>by cases h; exact⟨y227,.inl rfl⟩
theorem y228:mkTI Tryz.prog 228=some ⟨1,8,.nfunc,.func,[]⟩:=by kernel_rfl
theorem q228:TyQ Tryz.prog 228 (some ⟨1,8,.nfunc,.func,[]⟩):=fun ti h=>by cases h; exact⟨y228,.inl rfl⟩
theorem y229:mkTI Tryz.prog 229=some ⟨1,8,.nfunc,.func,[]⟩:=by kernel_rfl
theorem q229:TyQ Tryz.prog 229 (some ⟨1,8,.nfunc,.func,[]⟩):=fun ti h=>by cases h; exact⟨y229,.inl rfl⟩
theorem y230:mkTI Tryz.prog 230=some ⟨1,8,.nfunc,.func,[]⟩:=by kernel_rfl
theorem q230:TyQ Tryz.prog 230 (some ⟨1,8,.nfunc,.func,[]⟩):=fun ti h=>by cases h; exact⟨y230,.inl rfl⟩
theorem y231:mkTI Tryz.prog 231=some ⟨1,8,.nfunc,.func,[]⟩:=by kernel_rfl
theorem q231:TyQ Tryz.prog 231 (some ⟨1,8,.nfunc,.func,[]⟩):=fun ti h=>by cases h; exact⟨y231,.inl rfl⟩
theorem y232:mkTI Tryz.prog 232=some ⟨1,8,.nfunc,.func,[]⟩:=by kernel_rfl
theorem q232:TyQ Tryz.prog 232 (some ⟨1,8,.nfunc,.func,[]⟩):=fun ti h=>by cases h; exact⟨y232,.inl rfl⟩
theorem y233:mkTI Tryz.prog 233=some ⟨1,8,.nfunc,.func,[]⟩:=by kernel_rfl
theorem q233:TyQ Tryz.prog 233 (some ⟨1,8,.nfunc,.func,[]⟩):=fun ti h=>by cases h; exact⟨y233,.inl rfl⟩
theorem y234:mkTI Tryz.prog 234=some ⟨1,8,.nfunc,.func,[]⟩:=by kernel_rfl
theorem q234:TyQ Tryz.prog 234 (some ⟨1,8,.nfunc,.func,[]⟩):=fun ti h=>by cases h; exact⟨y234,.inl rfl⟩
theorem y235:mkTI Tryz.prog 235=some ⟨1,8,.nfunc,.func,[]⟩:=by kernel_rfl
theorem q235:TyQ Tryz.prog 235 (some ⟨1,8,.nfunc,.func,[]⟩):=fun ti h=>by cases h; exact⟨y235,.inl rfl⟩
theorem y236:mkTI Tryz.prog 236=some ⟨20,160,(.agg (rep 20 [(.int .u64 0)])),(.array 20 205),[]⟩:=by kernel_rfl
theorem q236:TyQ Tryz.prog 236 (some ⟨20,160,(.agg (rep 20 [(.int .u64 0)])),(.array 20 205),[]⟩):=fun ti h=>by cases h; exact⟨y236,.inl rfl⟩
theorem y237:mkTI Tryz.prog 237=some ⟨65,65,(.agg (rep 65 [(.int .u8 0)])),(.array 65 5),[]⟩:=by kernel_rfl
theorem q237:TyQ Tryz.prog 237 (some ⟨65,65,(.agg (rep 65 [(.int .u8 0)])),(.array 65 5),[]⟩):=fun ti h=>by cases h; exact⟨y237,.inl rfl⟩
theorem y238:mkTI Tryz.prog 238=some ⟨1,8,.nfunc,.func,[]⟩:=by kernel_rfl
theorem q238:TyQ Tryz.prog 238 (some ⟨1,8,.nfunc,.func,[]⟩):=fun ti h=>by cases h; exact⟨y238,.inl rfl⟩
theorem y240:mkTI Tryz.prog 240=some ⟨1,8,.nfunc,.func,[]⟩:=by kernel_rfl
theorem q240:TyQ Tryz.prog 240 (some ⟨1,8,.nfunc,.func,[]⟩):=fun ti h=>by cases h; exact⟨y240,.inl rfl⟩
theorem y241:mkTI Tryz.prog 241=some ⟨3,48,(.agg [(.str []),(.str []),.niface]),(.strct [(0,9,1),(1,9,1),(2,117,1)]),[]⟩:=by kernel_rfl
theorem q241:TyQ Tryz.prog 241 (some ⟨3,48,(.agg [(.str []),(.str []),.niface]),(.strct [(0,9,1),(1,9,1),(2,117,1)]),[]⟩):=fun ti h=>by cases h; exact⟨y241,.inl rfl⟩
theorem y242:mkTI Tryz.prog 242=some ⟨3,48,(.agg [(.str []),(.str []),.niface]),(.strct [(0,9,1),(1,9,1),(2,117,1)]),[]⟩:=by kernel_rfl
theorem q242:TyQ Tryz.prog 242 (some ⟨3,48,(.agg [(.str []),(.str []),.niface]),(.strct [(0,9,1),(1,9,1),(2,117,1)]),[]⟩):=fun ti h=>by cases h; exact⟨y242,.inl rfl⟩
theorem y243:mkTI Tryz.prog 243=some ⟨1,8,.nfunc,.func,[]⟩:=by kernel_rfl
theorem q243:TyQ Tryz.prog 243 (some ⟨1,8,.nfunc,.func,[]⟩):=fun ti h=>by cases h; exact⟨y243,.inl rfl⟩
theorem y244:mkTI Tryz.prog 244=some ⟨1,8,(.int .u64 0),(.int .u64),[]⟩:=by kernel_rfl
theorem q244:TyQ Tryz.prog 244 (some ⟨1,8,(.int .u64 0),(.int .u64),[]⟩):=fun ti h=>by cases h; exact⟨y244,.inl rfl⟩
theorem y245:mkTI Tryz.prog 245=some ⟨1,8,.nfunc,.func,[]⟩:=by kernel_rfl
theorem q245:TyQ Tryz.prog 245 (some ⟨1,8,.nfunc,.func,[]⟩):=fun ti h=>by cases h; exact⟨y245,.inl rfl⟩
theorem y246:mkTI Tryz.prog 246=some ⟨1,8,.nfunc,.func,[]⟩:=by kernel_rfl
theorem q246:TyQ Tryz.prog 246 (some ⟨1,8,.nfunc,.func,[]⟩):=fun ti h=>by cases h; exact⟨y246,.inl rfl⟩
theorem y247:mkTI Tryz.prog 247=some ⟨1,8,.nfunc,.func,[]⟩:=by kernel_rfl
theorem q247:TyQ Tryz.prog 247 (some ⟨1,8,.nfunc,.func,[]⟩):=fun ti h=>by cases h; exact⟨y247,.inl rfl⟩
theorem y248:mkTI Tryz.prog 248=some ⟨1,8,.nptr,(.ptr 3),[]⟩:=by kernel_rfl
theorem q248:TyQ Tryz.prog 248 (some ⟨1,8,.nptr,(.ptr 3),[]⟩):=fun ti h=>by cases h; exact⟨y248,.inl rfl⟩
theorem y249:mkTI Tryz.prog 249=some ⟨1,8,.nfunc,.func,[]⟩:=by kernel_rfl
theorem q249:TyQ Tryz.prog 249 (some ⟨1,8,.nfunc,.func,[]⟩):=fun ti h=>by cases h; exact⟨y249,.inl rfl⟩
theorem y250:mkTI Tryz.prog 250=some ⟨1,8,.nfunc,.func,[]⟩:=by kernel_rfl
theorem q250:TyQ Tryz.prog 250 (some ⟨1,8,.nfunc,.func,[]⟩):=fun ti h=>by cases h; exact⟨y250,.inl rfl⟩
theorem y251:mkTI Tryz.prog 251=some ⟨1,8,.nfunc,.func,[]⟩:=by kernel_rfl
theorem q251:TyQ Tryz.prog 251 (some ⟨1,8,.nfunc,.func,[]⟩):=fun ti h=>by cases h; exact⟨y251,.inl rfl⟩
theorem y252:mkTI Tryz.prog 252=some ⟨256,256,(.agg (rep 256 [(.int .u8 0)])),(.array 256 5),[]⟩:=by kernel_rfl
theorem q252:TyQ Tryz.prog 252 (some ⟨256,256,(.agg (rep 256 [(.int .u8 0)])),(.array 256 5),[]⟩):=fun ti h=>by cases h; exact⟨y252,.inl rfl⟩
theorem y253:mkTI Tryz.prog 253=some ⟨2,2,(.agg [(.int .u8 0),(.int .u8 0)]),(.strct [(0,5,1),(1,5,1)]),[]⟩:=by kernel_rfl
theorem q253:TyQ Tryz.prog 253 (some ⟨2,2,(.agg [(.int .u8 0),(.int .u8 0)]),(.strct [(0,5,1),(1,5,1)]),[]⟩):=fun ti h=>by cases h; exact⟨y253,.inl rfl⟩
theorem y254:mkTI Tryz.prog 254=some ⟨2,2,(.agg [(.int .u8 0),(.int .u8 0)]),(.strct [(0,5,1),(1,5,1)]),[]⟩:=by kernel_rfl
theorem q254:TyQ Tryz.prog 254 (some ⟨2,2,(.agg [(.int .u8 0),(.int .u8 0)]),(.strct [(0,5,1),(1,5,1)]),[]⟩):=fun ti h=>by cases h; exact⟨y254,.inl rfl⟩
theorem y255:mkTI Tryz.prog 255=some ⟨32,32,(.agg (rep 32 [(.int .u8 0)])),(.array 16 254),[]⟩:=by kernel_rfl
theorem q255:TyQ Tryz.prog 255 (some ⟨32,32,(.agg (rep 32 [(.int .u8 0)])),(.array 16 254),[]⟩):=fun ti h=>by cases h; exact⟨y255,.inl rfl⟩
theorem y256:mkTI Tryz.prog 256=some ⟨1,8,.nfunc,.func,[]⟩:=by kernel_rfl
theorem q256:TyQ Tryz.prog 256 (some ⟨1,8,.nfunc,.func,[]⟩):=fun ti h=>by cases h; exact⟨y256,.inl rfl⟩
theorem y258:mkTI Tryz.prog 258=some ⟨1,8,.nfunc,.func,[]⟩:=by kernel_rfl
theorem q258:TyQ Tryz.prog 258 (some ⟨1,8,.nfunc,.func,[]⟩):=fun ti h=>by cases h; exact⟨y258,.inl rfl⟩
theorem y259:mkTI Tryz.prog 259=some ⟨1,8,.nfunc,.func,[]⟩:=by kernel_rfl
theorem q259:TyQ Tryz.prog 259 (some ⟨1,8,.nfunc,.func,[]⟩):=fun ti h=>by cases h; exact⟨y259,.inl rfl⟩
theorem y260:mkTI Tryz.prog 260=some ⟨1,8,.nptr,(.ptr 262),[]⟩:=by kernel_rfl
theorem q260:TyQ Tryz.prog 260 (some ⟨1,8,.nptr,(.ptr 262),[]⟩):=fun ti h=>by cases h; exact⟨y260,.inl rfl⟩
theorem y261:mkTI Tryz.prog 261=some ⟨1,16,(.agg [(.str [])]),(.strct [(0,9,1)]),[]⟩:=by kernel_rfl
theorem q261:TyQ Tryz.prog 261 (some ⟨1,16,(.agg [(.str [])]),(.strct [(0,9,1)]),[]⟩):=fun ti h=>by cases h; exact⟨y261,.inl rfl⟩
theorem y262:mkTI Tryz.prog 262=some ⟨1,16,(.agg [(.str [])]),(.strct [(0,9,1)]),[]⟩:=by kernel_rfl
theorem q262:TyQ Tryz.prog 262 (some ⟨1,16,(.agg [(.str [])]),(.strct [(0,9,1)]),[]⟩):=fun ti h=>by cases h; exact⟨y262,.inl rfl⟩
theorem y263:mkTI Tryz.prog 263=some ⟨1,8,.nptr,(.ptr 244),[]⟩:=by kernel_rfl
theorem q263:TyQ Tryz.prog 263 (some ⟨1,8,.nptr,(.ptr 244),[]⟩):=fun ti h=>by cases h; exact⟨y263,.inl rfl⟩
theorem y265:mkTI Tryz.prog 265=some ⟨1,8,.nfunc,.func,[]⟩:=by kernel_rfl
theorem q265:TyQ Tryz.prog 265 (some ⟨1,8,.nfunc,.func,[]⟩):=fun ti h=>by cases h; exact⟨y265,.inl rfl⟩
theorem y266:mkTI Tryz.prog 266=some ⟨1,8,.nfunc,.func,[]⟩:=by kernel_rfl
theorem q266:TyQ Tryz.prog 266 (some ⟨1,8,.nfunc,.func,[]⟩):=fun ti h=>by cases h; exact⟨y266,.inl rfl⟩
theorem y267:mkTI Tryz.prog 267=some ⟨32,32,(.agg (rep 32 [(.int .u8 0)])),(.array 32 5),[]⟩:=by kernel_rfl
theorem q267:TyQ Tryz.prog 267 (some ⟨32,32,(.agg (rep 32 [(.int .u8 0)])),(.array 32 5),[]⟩):=fun ti h=>by cases h; exact⟨y267,.inl rfl⟩
theorem y268:mkTI Tryz.prog 268=some ⟨64,64,(.agg (rep 64 [(.int .u8 0)])),(.array 64 5),[]⟩:=by kernel_rfl
theorem q268:TyQ Tryz.prog 268 (some ⟨64,64,(.agg (rep 64 [(.int .u8 0)])),(.array 64 5),[]⟩):=fun ti h=>by cases h; exact⟨y268,.inl rfl⟩
theorem y269:mkTI Tryz.prog 269=some ⟨4,40,(.agg [.nptr,.nptr,.nptr,(.str [])]),(.strct [(0,17,1),(1,17,1),(2,17,1),(3,9,1)]),[]⟩:=by kernel_rfl
theorem q269:TyQ Tryz.prog 269 (some ⟨4,40,(.agg [.nptr,.nptr,.nptr,(.str [])]),(.strct [(0,17,1),(1,17,1),(2,17,1),(3,9,1)]),[]⟩):=fun ti h=>by cases h; exact⟨y269,.inl rfl⟩
theorem y270:mkTI Tryz.prog 270=some ⟨4,40,(.agg [.nptr,.nptr,.nptr,(.str [])]),(.strct [(0,17,1),(1,17,1),(2,17,1),(3,9,1)]),[]⟩:=by kernel_rfl
theorem q270:TyQ Tryz.prog 270 (some ⟨4,40,(.agg [.nptr,.nptr,.nptr,(.str [])]),(.strct [(0,17,1),(1,17,1),(2,17,1),(3,9,1)]),[]⟩):=fun ti h=>by cases h; exact⟨y270,.inl rfl⟩
theorem y271:mkTI Tryz.prog 271=some ⟨0,0,(.agg []),(.array 0 16),[]⟩:=by kernel_rfl
theorem q271:TyQ Tryz.prog 271 (some ⟨0,0,(.agg []),(.array 0 16),[]⟩):=fun ti h=>by cases h; exact⟨y271,.inl rfl⟩
theorem y272:mkTI Tryz.prog 272=some ⟨0,0,(.agg []),(.strct [(0,271,0)]),[]⟩:=by kernel_rfl
theorem q272:TyQ Tryz.prog 272 (some ⟨0,0,(.agg []),(.strct [(0,271,0)]),[]⟩):=fun ti h=>by cases h; exact⟨y272,.inl rfl⟩
theorem y273:mkTI Tryz.prog 273=some ⟨0,0,(.agg []),(.strct [(0,271,0)]),[]⟩:=by kernel_rfl
theorem q273:TyQ Tryz.prog 273 (some ⟨0,0,(.agg []),(.strct [(0,271,0)]),[]⟩):=fun ti h=>by cases h; exact⟨y273,.inl rfl⟩
theorem y274:mkTI Tryz.prog 274=some ⟨1,8,.nfunc,.func,[]⟩:=by kernel_rfl
theorem q274:TyQ Tryz.prog 274 (some ⟨1,8,.nfunc,.func,[]⟩):=fun ti h=>by cases h; exact⟨y274,.inl rfl⟩
theorem y275:mkTI Tryz.prog 275=some ⟨1,1,(.int .u8 0),(.int .u8),[]⟩:=by kernel_rfl
theorem q275:TyQ Tryz.prog 275 (some ⟨1,1,(.int .u8 0),(.int .u8),[]⟩):=fun ti h=>by cases h; exact⟨y275,.inl rfl⟩
theorem y276:mkTI Tryz.prog 276=some ⟨1,1,(.int .u8 0),(.int .u8),[]⟩:=by kernel_rfl
theorem q276:TyQ Tryz.prog 276 (some ⟨1,1,(.int .u8 0),(.int .u8),[]⟩):=fun ti h=>by cases h; exact⟨y276,.inl rfl⟩
theorem y277:mkTI Tryz.prog 277=some ⟨1,8,.nfunc,.func,[]⟩:=by kernel_rfl
theorem q277:TyQ Tryz.prog 277 (some ⟨1,8,.nfunc,.func,[]⟩):=fun ti h=>by cases h; exact⟨y277,.inl rfl⟩
theorem y278:mkTI Tryz.prog 278=some ⟨1,4,(.int .i32 0),(.int .i32),[]⟩:=by kernel_rfl
theorem q278:TyQ Tryz.prog 278 (some ⟨1,4,(.int .i32 0),(.int .i32),[]⟩):=fun ti h=>by cases h; exact⟨y278,.inl rfl⟩
theorem y279:mkTI Tryz.prog 279=some ⟨1,4,(.int .i32 0),(.int .i32),[]⟩:=by kernel_rfl
theorem q279:TyQ Tryz.prog 279 (some ⟨1,4,(.int .i32 0),(.int .i32),[]⟩):=fun ti h=>by cases h; exact⟨y279,.inl rfl⟩
theorem y280:mkTI Tryz.prog 280=some ⟨11,48,(.agg [(.int .u64 0),(.int .u64 0),(.int .u32 0),(.int .u8 0),(.int .u8 0),(.int .u8 0),(.int .u8 0),.nfunc,.nptr,(.int .i32 0),(.int .i32 0)]),(.strct [(0,12,1),(1,12,1),(2,227,1),(3,275,1),(4,5,1),(5,5,1),(6,276,1),(7,277,1),(8,155,1),(9,278,1),(10,279,1)]),[]⟩:=by kernel_rfl
theorem q280:TyQ Tryz.prog 280 (some ⟨11,48,(.agg [(.int .u64 0),(.int .u64 0),(.int .u32 0),(.int .u8 0),(.int .u8 0),(.int .u8 0),(.int .u8 0),.nfunc,.nptr,(.int .i32 0),(.int .i32 0)]),(.strct [(0,12,1),(1,12,1),(2,227,1),(3,275,1),(4,5,1),(5,5,1),(6,276,1),(7,277,1),(8,155,1),(9,278,1),(10,279,1)]),[]⟩):=fun ti h=>by cases h; exact⟨y280,.inl rfl⟩
theorem y281:mkTI Tryz.prog 281=some ⟨11,48,(.agg [(.int .u64 0),(.int .u64 0),(.int .u32 0),(.int .u8 0),(.int .u8 0),(.int .u8 0),(.int .u8 0),.nfunc,.nptr,(.int .i32 0),(.int .i32 0)]),(.strct [(0,12,1),(1,12,1),(2,227,1),(3,275,1),(4,5,1),(5,5,1),(6,276,1),(7,277,1),(8,155,1),(9,278,1),(10,279,1)]),[]⟩:=by kernel_rfl
theorem q281:TyQ Tryz.prog 281 (some ⟨11,48,(.agg [(.int .u64 0),(.int .u64 0),(.int .u32 0),(.int .u8 0),(.int .u8 0),(.int .u8 0),(.int .u8 0),.nfunc,.nptr,(.int .i32 0),(.int .i32 0)]),(.strct [(0,12,1),(1,12,1),(2,227,1),(3,275,1),(4,5,1),(5,5,1),(6,276,1),(7,277,1),(8,155,1),(9,278,1),(10,279,1)]),[]⟩):=fun ti h=>by cases h; exact⟨y281,.inl rfl⟩
theorem g2:FnQ Tryz.prog 2 (some ff2):=fun fi h=>by cases h; kernel_rfl
theorem g3:FnQ Tryz.prog 3 (some ff3):=fun fi h=>by cases h; kernel_rfl
theorem g4:FnQ Tryz.prog 4 (some ff4):=fun fi h=>by cases h; kernel_rfl
theorem g5:FnQ Tryz.prog 5 (some ff5):=fun fi h=>by cases h; kernel_rfl
theorem g6:FnQ Tryz.prog 6 (some ff6):=fun fi h=>by cases h; kernel_rfl
theorem g7:FnQ Tryz.prog 7 (some ff7):=fun fi h=>by cases h; kernel_rfl
theorem g8:FnQ Tryz.prog 8 (some ff8):=fun fi h=>by cases h; kernel_rfl
theorem g9:FnQ Tryz.prog 9 (some ff9):=fun fi h=>by cases h; kernel_rfl
theorem g10:FnQ Tryz.prog 10 (some ff10):=fun fi h=>by cases h; kernel_rfl
theorem g11:FnQ Tryz.prog 11 (some ff11):=fun fi h=>by cases h; kernel_rfl
theorem g12:FnQ Tryz.prog 12 (some ff12):=fun fi h=>by cases h; kernel_rfl
theorem g13:FnQ Tryz.prog 13 (some ff13):=fun fi h=>by cases h; kernel_rfl
theorem g14:FnQ Tryz.prog 14 (some ff14):=fun fi h=>by cases h; kernel_rfl
theorem g15:FnQ Tryz.prog 15 (some ff15):=fun fi h=>by cases h; kernel_rfl
theorem g16:FnQ Tryz.prog 16 (some ff16):=fun fi h=>by cases h; kernel_rfl
theorem g17:FnQ Tryz.prog 17 (some ff17):=fun fi h=>by cases h; kernel_rfl
theorem g18:FnQ Tryz.prog 18 (some ff18):=fun fi h=>by cases h; kernel_rfl
theorem g19:FnQ Tryz.prog 19 (some ff19):=fun fi h=>by cases h; kernel_rfl
theorem g20:FnQ Tryz.prog 20 (some ff20):=fun fi h=>by cases h; kernel_rfl
theorem g21:FnQ Tryz.prog 21 (some ff21):=fun fi h=>by cases h; kernel_rfl
theorem g22:FnQ Tryz.prog 22 (some ff22):=fun fi h=>by cases h; kernel_rfl
theorem g23:FnQ Tryz.prog 23 (some ff23):=fun fi h=>by cases h; kernel_rfl
theorem g24:FnQ Tryz.prog 24 (some ff24):=fun fi h=>by cases h; kernel_rfl
theorem g25:FnQ Tryz.prog 25 (some ff25):=fun fi h=>by cases h; kernel_rfl
theorem g26:FnQ Tryz.prog 26 (some ff26):=fun fi h=>by cases h; kernel_rfl
theorem g27:FnQ Tryz.prog 27 (some ff27):=fun fi h=>by cases h; kernel_rfl
theorem g28:FnQ Tryz.prog 28 (some ff28):=fun fi h=>by cases h; kernel_rfl
theorem g29:FnQ Tryz.prog 29 (some ff29):=fun fi h=>by cases h; kernel_rfl
theorem g30:FnQ Tryz.prog 30 (some ff30):=fun fi h=>by cases h; kernel_rfl
theorem g31:FnQ Tryz.prog 31 (some ff31):=fun fi h=>by cases h; kernel_rfl
theorem g32:FnQ Tryz.prog 32 (some ff32):=fun fi h=>by cases h; kernel_rfl
theorem g33:FnQ Tryz.prog 33 (some ff33):=fun fi h=>by cases h; kernel_rfl
theorem g34:FnQ Tryz.prog 34 (some ff34):=fun fi h=>by cases h; kernel_rfl
theorem g35:FnQ Tryz.prog 35 (some ff35):=fun fi h=>by cases h; kernel_rfl
theorem g36:FnQ Tryz.prog 36 (some ff36):=fun fi h=>by cases h; kernel_rfl
theorem g37:FnQ Tryz.prog 37 (some ff37):=fun fi h=>by cases h; kernel_rfl
theorem g38:FnQ Tryz.prog 38 (some ff38):=fun fi h=>by cases h; kernel_rfl
theorem g39:FnQ Tryz.prog 39 (some ff39):=fun fi h=>by cases h; kernel_rfl
theorem g40:FnQ Tryz.prog 40 (some ff40):=fun fi h=>by cases h; kernel_rfl
theorem g41:FnQ Tryz.prog 41 (some ff41):=fun fi h=>by cases h; kernel_rfl
theorem g42:FnQ Tryz.prog 42 (some ff42):=fun fi h=>by cases h; kernel_rfl
theorem g43:FnQ Tryz.prog 43 (some ff43):=fun fi h=>by cases h; kernel_rfl
theorem g44:FnQ Tryz.prog 44 (some ff44):=fun fi h=>by cases h; kernel_rfl
theorem g45:FnQ Tryz.prog 45 (some ff45):=fun fi h=>by cases h; kernel_rfl
theorem g46:FnQ Tryz.prog 46 (some ff46):=fun fi h=>by cases h; kernel_rfl
theorem g47:FnQ Tryz.prog 47 (some ff47):=fun fi h=>by cases h; kernel_rfl
theorem g48:FnQ Tryz.prog 48 (some ff48):=fun fi h=>by cases h; kernel_rfl
theorem g49:FnQ Tryz.prog 49 (some ff49):=fun fi h=>by cases h; kernel_rfl
theorem g50:FnQ Tryz.prog 50 (some ff50):=fun fi h=>by cases h; kernel_rfl
theorem g51:FnQ Tryz.prog 51 (some ff51):=fun fi h=>by cases h; kernel_rfl
theorem g52:FnQ Tryz.prog 52 (some ff52):=fun fi h=>by cases h; kernel_rfl
theorem g53:FnQ Tryz.prog 53 (some ff53):=fun fi h=>by cases h; kernel_rfl
theorem g54:FnQ Tryz.prog 54 (some ff54):=fun fi h=>by cases h; kernel_rfl
theorem g55:FnQ Tryz.prog 55 (some ff55):=fun fi h=>by cases h; kernel_rfl
theorem g56:FnQ Tryz.prog 56 (some ff56):=fun fi h=>by cases h; kernel_rfl
theorem g57:FnQ Tryz.prog 57 (some ff57):=fun fi h=>by cases h; kernel_rfl
theorem g58:FnQ Tryz.prog 58 (some ff58):=fun fi h=>by cases h; kernel_rfl
theorem g59:FnQ Tryz.prog 59 (some ff59):=fun fi h=>by cases h; kernel_rfl
theorem g60:FnQ Tryz.prog 60 (some ff60):=fun fi h=>by cases h; kernel_rfl
theorem g61:FnQ Tryz.prog 61 (some ff61):=fun fi h=>by cases h; kernel_rfl
theorem g62:FnQ Tryz.prog 62 (some ff62):=fun fi h=>by cases h; kernel_rfl
theorem g63:FnQ Tryz.prog 63 (some ff63):=fun fi h=>by cases h; kernel_rfl
theorem g64:FnQ Tryz.prog 64 (some ff64):=fun fi h=>by cases h; kernel_rfl
theorem g65:FnQ Tryz.prog 65 (some ff65):=fun fi h=>by cases h; kernel_rfl
theorem g66:FnQ Tryz.prog 66 (some ff66):=fun fi h=>by cases h; kernel_rfl
theorem g67:FnQ Tryz.prog 67 (some ff67):=fun fi h=>by cases h; kernel_rfl
theorem g68:FnQ Tryz.prog 68 (some ff68):=fun fi h=>by cases h; kernel_rfl
theorem g69:FnQ Tryz.prog 69 (some ff69):=fun fi h=>by cases h; kernel_rfl
theorem g70:FnQ Tryz.prog 70 (some ff70):=fun fi h=>by cases h; kernel_rfl
theorem g71:FnQ Tryz.prog 71 (some ff71):=fun fi h=>by cases h; kernel_rfl
theorem g72:FnQ Tryz.prog 72 (some ff72):=fun fi h=>by cases h; kernel_rfl
theorem g73:FnQ Tryz.prog 73 (some ff73):=fun fi h=>by cases h; kernel_rfl
theorem g74:FnQ Tryz.prog 74 (some ff74):=fun fi h=>by cases h; kernel_rfl
theorem g75:FnQ Tryz.prog 75 (some ff75):=fun fi h=>by cases h; kernel_rfl
theorem g76:FnQ Tryz.prog 76 (some ff76):=fun fi h=>by cases h; kernel_rfl
theorem g77:FnQ Tryz.prog 77 (some ff77):=fun fi h=>by cases h; kernel_rfl
theorem g78:FnQ Tryz.prog 78 (some ff78):=fun fi h=>by cases h; kernel_rfl
theorem g79:FnQ Tryz.prog 79 (some ff79):=fun fi h=>by cases h; kernel_rfl
theorem g80:FnQ Tryz.prog 80 (some ff80):=fun fi h=>by cases h; kernel_rfl
theorem g81:FnQ Tryz.prog 81 (some ff81):=fun fi h=>by cases h; kernel_rfl
theorem g82:FnQ Tryz.prog 82 (some ff82):=fun fi h=>by cases h; kernel_rfl
theorem g83:FnQ Tryz.prog 83 (some ff83):=fun fi h=>by cases h; kernel_rfl
theorem g84:FnQ Tryz.prog 84 (some ff84):=fun fi h=>by cases h; kernel_rfl
theorem g85:FnQ Tryz.prog 85 (some ff85):=fun fi h=>by cases h; kernel_rfl
theorem g86:FnQ Tryz.prog 86 (some ff86):=fun fi h=>by cases h; kernel_rfl
theorem g87:FnQ Tryz.prog 87 (some ff87):=fun fi h=>by cases h; kernel_rfl
theorem g88:FnQ Tryz.prog 88 (some ff88):=fun fi h=>by cases h; kernel_rfl
theorem g89:FnQ Tryz.prog 89 (some ff89):=fun fi h=>by cases h; kernel_rfl
theorem g90:FnQ Tryz.prog 90 (some ff90):=fun fi h=>by cases h; kernel_rfl
theorem g91:FnQ Tryz.prog 91 (some ff91):=fun fi h=>by cases h; kernel_rfl
theorem g92:FnQ Tryz.prog 92 (some ff92):=fun fi h=>by cases h; kernel_rfl
theorem g93:FnQ Tryz.prog 93 (some ff93):=fun fi h=>by cases h; kernel_rfl
theorem g94:FnQ Tryz.prog 94 (some ff94):=fun fi h=>by cases h; kernel_rfl
theorem g95:FnQ Tryz.prog 95 (some ff95):=fun fi h=>by cases h; kernel_rfl
theorem g96:FnQ Tryz.prog 96 (some ff96):=fun fi h=>by cases h; kernel_rfl
theorem g97:FnQ Tryz.prog 97 (some ff97):=fun fi h=>by cases h; kernel_rfl
theorem g98:FnQ Tryz.prog 98 (some ff98):=fun fi h=>by cases h; kernel_rfl
theorem g99:FnQ Tryz.prog 99 (some ff99):=fun fi h=>by cases h; kernel_rfl
theorem g100:FnQ Tryz.prog 100 (some ff100):=fun fi h=>by cases h; kernel_rfl
theorem g101:FnQ Tryz.prog 101 (some ff101):=fun fi h=>by cases h; kernel_rfl
theorem g102:FnQ Tryz.prog 102 (some ff102):=fun fi h=>by cases h; kernel_rfl
theorem g103:FnQ Tryz.prog 103 (some ff103):=fun fi h=>by cases h; kernel_rfl
theorem g104:FnQ Tryz.prog 104 (some ff104):=fun fi h=>by cases h; kernel_rfl
theorem g105:FnQ Tryz.prog 105 (some ff105):=fun fi h=>by cases h; kernel_rfl
theorem g106:FnQ Tryz.prog 106 (some ff106):=fun fi h=>by cases h; kernel_rfl
theorem g107:FnQ Tryz.prog 107 (some ff107):=fun fi h=>by cases h; kernel_rfl
theorem g108:FnQ Tryz.prog 108 (some ff108):=fun fi h=>by cases h; kernel_rfl
theorem g109:FnQ Tryz.prog 109 (some ff109):=fun fi h=>by cases h; kernel_rfl
theorem g111:FnQ Tryz.prog 111 (some ff111):=fun fi h=>by cases h; kernel_rfl
theorem g112:FnQ Tryz.prog 112 (some ff112):=fun fi h=>by cases h; kernel_rfl
theorem g113:FnQ Tryz.prog 113 (some ff113):=fun fi h=>by cases h; kernel_rfl
theorem g114:FnQ Tryz.prog 114 (some ff114):=fun fi h=>by cases h; kernel_rfl
theorem g115:FnQ Tryz.prog 115 (some ff115):=fun fi h=>by cases h; kernel_rfl
theorem g116:FnQ Tryz.prog 116 (some ff116):=fun fi h=>by cases h; kernel_rfl
theorem g117:FnQ Tryz.prog 117 (some ff117):=fun fi h=>by cases h; kernel_rfl
theorem g118:FnQ Tryz.prog 118 (some ff118):=fun fi h=>by cases h; kernel_rfl
theorem g119:FnQ Tryz.prog 119 (some ff119):=fun fi h=>by cases h; kernel_rfl
theorem g120:FnQ Tryz.prog 120 (some ff120):=fun fi h=>by cases h; kernel_rfl
theorem g121:FnQ Tryz.prog 121 (some ff121):=fun fi h=>by cases h; kernel_rfl
theorem g122:FnQ Tryz.prog 122 (some ff122):=fun fi h=>by cases h; kernel_rfl
theorem g123:FnQ Tryz.prog 123 (some ff123):=fun fi h=>by cases h; kernel_rfl
theorem g124:FnQ Tryz.prog 124 (some ff124):=fun fi h=>by cases h; kernel_rfl
theorem g125:FnQ Tryz.prog 125 (some ff125):=fun fi h=>by cases h; kernel_rfl
theorem g126:FnQ Tryz.prog 126 (some ff126):=fun fi h=>by cases h; kernel_rfl
theorem g127:FnQ Tryz.prog 127 (some ff127):=fun fi h=>by cases h; kernel_rfl
theorem g128:FnQ Tryz.prog 128 (some ff128):=fun fi h=>by cases h; kernel_rfl
theorem g129:FnQ Tryz.prog 129 (some ff129):=fun fi h=>by cases h; kernel_rfl
theorem g130:FnQ Tryz.prog 130 (some ff130):=fun fi h=>by cases h; kernel_rfl
theorem g131:FnQ Tryz.prog 131 (some ff131):=fun fi h=>by cases h; kernel_rfl
theorem g132:FnQ Tryz.prog 132 (some ff132):=fun fi h=>by cases h; kernel_rfl
theorem g133:FnQ Tryz.prog 133 (some ff133):=fun fi h=>by cases h; kernel_rfl
theorem g134:FnQ Tryz.prog 134 (some ff134):=fun fi h=>by cases h; kernel_rfl
theorem g135:FnQ Tryz.prog 135 (some ff135):=fun fi h=>by cases h; kernel_rfl
theorem g136:FnQ Tryz.prog 136 (some ff136):=fun fi h=>by cases h; kernel_rfl
theorem g137:FnQ Tryz.prog 137 (some ff137):=fun fi h=>by cases h; kernel_rfl
theorem g138:FnQ Tryz.prog 138 (some ff138):=fun fi h=>by cases h; kernel_rfl
theorem g139:FnQ Tryz.prog 139 (some ff139):=fun fi h=>by cases h; kernel_rfl
theorem g140:FnQ Tryz.prog 140 (some ff140):=fun fi h=>by cases h; kernel_rfl
theorem g141:FnQ Tryz.prog 141 (some ff141):=fun fi h=>by cases h; kernel_rfl
theorem g142:FnQ Tryz.prog 142 (some ff142):=fun fi h=>by cases h; kernel_rfl
theorem g143:FnQ Tryz.prog 143 (some ff143):=fun fi h=>by cases h; kernel_rfl
theorem g144:FnQ Tryz.prog 144 (some ff144):=fun fi h=>by cases h; kernel_rfl
theorem g145:FnQ Tryz.prog 145 (some ff145):=fun fi h=>by cases h; kernel_rfl
theorem g146:FnQ Tryz.prog 146 (some ff146):=fun fi h=>by cases h; kernel_rfl
theorem g148:FnQ Tryz.prog 148 (some ff148):=fun fi h=>by cases h; kernel_rfl
theorem g149:FnQ Tryz.prog 149 (some ff149):=fun fi h=>by cases h; kernel_rfl
theorem g150:FnQ Tryz.prog 150 (some ff150):=fun fi h=>by cases h; kernel_rfl
theorem g151:FnQ Tryz.prog 151 (some ff151):=fun fi h=>by cases h; kernel_rfl
theorem g152:FnQ Tryz.prog 152 (some ff152):=fun fi h=>by cases h; kernel_rfl
theorem g153:FnQ Tryz.prog 153 (some ff153):=fun fi h=>by cases h; kernel_rfl
theorem g154:FnQ Tryz.prog 154 (some ff154):=fun fi h=>by cases h; kernel_rfl
theorem g155:FnQ Tryz.prog 155 (some ff155):=fun fi h=>by cases h; kernel_rfl
theorem g156:FnQ Tryz.prog 156 (some ff156):=fun fi h=>by cases h; kernel_rfl
theorem g157:FnQ Tryz.prog 157 (some ff157):=fun fi h=>by cases h; kernel_rfl
theorem g158:FnQ Tryz.prog 158 (some ff158):=fun fi h=>by cases h; kernel_rfl
theorem g159:FnQ Tryz.prog 159 (some ff159):=fun fi h=>by cases h; kernel_rfl
theorem g160:FnQ Tryz.prog 160 (some ff160):=fun fi h=>by cases h; kernel_rfl
theorem g161:FnQ Tryz.prog 161 (some ff161):=fun fi h=>by cases h; kernel_rfl
theorem g162:FnQ Tryz.prog 162 (some ff162):=fun fi h=>by cases h; kernel_rfl
theorem g163:FnQ Tryz.prog 163 (some ff163):=fun fi h=>by cases h; kernel_rfl
theorem g164:FnQ Tryz.prog 164 (some ff164):=fun fi h=>by cases h; kernel_rfl
theorem g165:FnQ Tryz.prog 165 (some ff165):=fun fi h=>by cases h; kernel_rfl
theorem g166:FnQ Tryz.prog 166 (some ff166):=fun fi h=>by cases h; kernel_rfl
theorem g167:FnQ Tryz.prog 167 (some ff167):=fun fi h=>by cases h; kernel_rfl
theorem g168:FnQ Tryz.prog 168 (some ff168):=fun fi h=>by cases h; kernel_rfl
theorem g169:FnQ Tryz.prog 169 (some ff169):=fun fi h=>by cases h; kernel_rfl
theorem g170:FnQ Tryz.prog 170 (some ff170):=fun fi h=>by cases h; kernel_rfl
theorem g171:FnQ Tryz.prog 171 (some ff171):=fun fi h=>by cases h; kernel_rfl
theorem g172:FnQ Tryz.prog 172 (some ff172):=fun fi h=>by cases h; kernel_rfl
theorem g173:FnQ Tryz.prog 173 (some ff173):=fun fi h=>by cases h; kernel_rfl
theorem g174:FnQ Tryz.prog 174 (some ff174):=fun fi h=>by cases h; kernel_rfl
theorem g175:FnQ Tryz.prog 175 (some ff175):=fun fi h=>by cases h; kernel_rfl
theorem g177:FnQ Tryz.prog 177 (some ff177):=fun fi h=>by cases h; kernel_rfl
theorem g178:FnQ Tryz.prog 178 (some ff178):=fun fi h=>by cases h; kernel_rfl
theorem g179:FnQ Tryz.prog 179 (some ff179):=fun fi h=>by cases h; kernel_rfl
theorem g180:FnQ Tryz.prog 180 (some ff180):=fun fi h=>by cases h; kernel_rfl
theorem g181:FnQ Tryz.prog 181 (some ff181):=fun fi h=>by cases h; kernel_rfl
theorem g182:FnQ Tryz.prog 182 (some ff182):=fun fi h=>by cases h; kernel_rfl
theorem g183:FnQ Tryz.prog 183 (some ff183):=fun fi h=>by cases h; kernel_rfl
theorem g184:FnQ Tryz.prog 184 (some ff184):=fun fi h=>by cases h; kernel_rfl
theorem g185:FnQ Tryz.prog 185 (some ff185):=fun fi h=>by cases h; kernel_rfl
theorem g186:FnQ Tryz.prog 186 (some ff186):=fun fi h=>by cases h; kernel_rfl
theorem g187:FnQ Tryz.prog 187 (some ff187):=fun fi h=>by cases h; kernel_rfl
theorem g188:FnQ Tryz.prog 188 (some ff188):=fun fi h=>by cases h; kernel_rfl
theorem g189:FnQ Tryz.prog 189 (some ff189):=fun fi h=>by cases h; kernel_rfl
theorem g190:FnQ Tryz.prog 190 (some ff190):=fun fi h=>by cases h; kernel_rfl
theorem g191:FnQ Tryz.prog 191 (some ff191):=fun fi h=>by cases h; kernel_rfl
theorem g192:FnQ Tryz.prog 192 (some ff192):=fun fi h=>by cases h; kernel_rfl
theorem g193:FnQ Tryz.prog 193 (some ff193):=fun fi h=>by cases h; kernel_rfl
theorem g194:FnQ Tryz.prog 194 (some ff194):=fun fi h=>by cases h; kernel_rfl
theorem g195:FnQ Tryz.prog 195 (some ff195):=fun fi h=>by cases h; kernel_rfl
theorem g196:FnQ Tryz.prog 196 (some ff196):=fun fi h=>by cases h; kernel_rfl
theorem g197:FnQ Tryz.prog 197 (some ff197):=fun fi h=>by cases h; kernel_rfl
theorem g198:FnQ Tryz.prog 198 (some ff198):=fun fi h=>by cases h; kernel_rfl
theorem g199:FnQ Tryz.prog 199 (some ff199):=fun fi h=>by cases h; kernel_rfl
theorem g200:FnQ Tryz.prog 200 (some ff200):=fun fi h=>by cases h; kernel_rfl
theorem g201:FnQ Tryz.prog 201 (some ff201):=fun fi h=>by cases h; kernel_rfl
theorem g202:FnQ Tryz.prog 202 (some ff202):=fun fi h=>by cases h; kernel_rfl
theorem g203:FnQ Tryz.prog 203 (some ff203):=fun fi h=>by cases h; kernel_rfl
theorem g204:FnQ Tryz.prog 204 (some ff204):=fun fi h=>by cases h; kernel_rfl
theorem g205:FnQ Tryz.prog 205 (some ff205):=fun fi h=>by cases h; kernel_rfl
theorem g206:FnQ Tryz.prog 206 (some ff206):=fun fi h=>by cases h; kernel_rfl
theorem g207:FnQ Tryz.prog 207 (some ff207):=fun fi h=>by cases h; kernel_rfl
theorem g208:FnQ Tryz.prog 208 (some ff208):=fun fi h=>by cases h; kernel_rfl
theorem g210:FnQ Tryz.prog 210 (some ff210):=fun fi h=>by cases h; kernel_rfl
theorem g212:FnQ Tryz.prog 212 (some ff212):=fun fi h=>by cases h; kernel_rfl
theorem g213:FnQ Tryz.prog 213 (some ff213):=fun fi h=>by cases h; kernel_rfl
theorem g214:FnQ Tryz.prog 214 (some ff214):=fun fi h=>by cases h; kernel_rfl
theorem g215:FnQ Tryz.prog 215 (some ff215):=fun fi h=>by cases h; kernel_rfl
theorem g216:FnQ Tryz.prog 216 (some ff216):=fun fi h=>by cases h; kernel_rfl
theorem g217:FnQ Tryz.prog 217 (some ff217):=fun fi h=>by cases h; kernel_rfl
theorem g218:FnQ Tryz.prog 218 (some ff218):=fun fi h=>by cases h; kernel_rfl
theorem g219:FnQ Tryz.prog 219 (some ff219):=fun fi h=>by cases h; kernel_rfl
theorem g220:FnQ Tryz.prog 220 (some ff220):=fun fi h=>by cases h; kernel_rfl
theorem g221:FnQ Tryz.prog 221 (some ff221):=fun fi h=>by cases h; kernel_rfl
theorem g222:FnQ Tryz.prog 222 (some ff222):=fun fi h=>by cases h; kernel_rfl
theorem g223:FnQ Tryz.prog 223 (some ff223):=fun fi h=>by cases h; kernel_rfl
theorem g224:FnQ Tryz.prog 224 (some ff224):=fun fi h=>by cases h; kernel_rfl
theorem g225:FnQ Tryz.prog 225 (some ff225):=fun fi h=>by cases h; kernel_rfl
theorem g226:FnQ Tryz.prog 226 (some ff226):=fun fi h=>by cases h; kernel_rfl
theorem g227:FnQ Tryz.prog 227 (some ff227):=fun fi h=>by cases h; kernel_rfl
theorem g228:FnQ Tryz.prog 228 (some ff228):=fun fi h=>by cases h; kernel_rfl
theorem g230:FnQ Tryz.prog 230 (some ff230):=fun fi h=>by cases h; kernel_rfl
theorem g231:FnQ Tryz.prog 231 (some ff231):=fun fi h=>by cases h; kernel_rfl
theorem g232:FnQ Tryz.prog 232 (some ff232):=fun fi h=>by cases h; kernel_rfl
theorem g233:FnQ Tryz.prog 233 (some ff233):=fun fi h=>by cases h; kernel_rfl
theorem g234:FnQ Tryz.prog 234 (some ff234):=fun fi h=>by cases h; kernel_rfl
theorem g264:FnQ Tryz.prog 264 (some ff264):=fun fi h=>by cases h; kernel_rfl
theorem n1 (b:Nat):TyQ Tryz.prog b none:=fun _ h=>by cases h
theorem n2 (b:Nat):FnQ Tryz.prog b none:=fun _ h=>by cases h
theorem tyA:AllT (TyQ Tryz.prog) 9 0 1 ty:=⟨⟨⟨⟨⟨⟨⟨⟨⟨q0,q256⟩,⟨q128,(n1 _)⟩⟩,⟨⟨q64,(n1 _)⟩,⟨q192,(n1 _)⟩⟩⟩,⟨⟨⟨q32,(n1 _)⟩,⟨q160,(n1 _)⟩⟩,⟨⟨q96,(n1 _)⟩,trivial⟩⟩⟩,⟨⟨⟨⟨q16,q272⟩,⟨q144,(n1 _)⟩⟩,⟨⟨q80,(n1 _)⟩,trivial⟩⟩,⟨⟨⟨q48,(n1 _)⟩,⟨q176,(n1 _)⟩⟩,⟨⟨q112,(n1 _)⟩,⟨q240,(n1 _)⟩⟩⟩⟩⟩,⟨⟨⟨⟨⟨q8,(n1 _)⟩,⟨q136,(n1 _)⟩⟩,⟨⟨q72,(n1 _)⟩,⟨q200,(n1 _)⟩⟩⟩,⟨⟨⟨q40,(n1 _)⟩,⟨q168,(n1 _)⟩⟩,⟨⟨q104,(n1 _)⟩,⟨q232,(n1 _)⟩⟩⟩⟩,⟨⟨⟨⟨q24,q280⟩,⟨q152,(n1 _)⟩⟩,⟨⟨q88,(n1 _)⟩,⟨q216,(n1 _)⟩⟩⟩,⟨⟨trivial,⟨q184,(n1 _)⟩⟩,⟨⟨q120,(n1 _)⟩,⟨q248,(n1 _)⟩⟩⟩⟩⟩⟩,⟨⟨⟨⟨⟨⟨q4,q260⟩,⟨q132,(n1 _)⟩⟩,⟨trivial,⟨q196,(n1 _)⟩⟩⟩,⟨⟨⟨q36,(n1 _)⟩,⟨q164,(n1 _)⟩⟩,⟨⟨q100,(n1 _)⟩,⟨q228,(n1 _)⟩⟩⟩⟩,⟨⟨⟨⟨q20,q276⟩,⟨q148,(n1 _)⟩⟩,⟨⟨q84,(n1 _)⟩,trivial⟩⟩,⟨⟨⟨q52,(n1 _)⟩,⟨q180,(n1 _)⟩⟩,⟨⟨q116,(n1 _)⟩,⟨q244,(n1 _)⟩⟩⟩⟩⟩,⟨⟨⟨⟨⟨q12,q268⟩,⟨q140,(n1 _)⟩⟩,⟨⟨q76,(n1 _)⟩,⟨q204,(n1 _)⟩⟩⟩,⟨⟨⟨q44,(n1 _)⟩,⟨q172,(n1 _)⟩⟩,⟨⟨q108,(n1 _)⟩,⟨q236,(n1 _)⟩⟩⟩⟩,⟨⟨⟨⟨q28,(n1 _)⟩,⟨q156,(n1 _)⟩⟩,⟨⟨q92,(n1 _)⟩,trivial⟩⟩,⟨⟨⟨q60,(n1 _)⟩,trivial⟩,⟨trivial,⟨q252,(n1 _)⟩⟩⟩⟩⟩⟩⟩,⟨⟨⟨⟨⟨⟨⟨q2,q258⟩,⟨q130,(n1 _)⟩⟩,⟨⟨q66,(n1 _)⟩,⟨q194,(n1 _)⟩⟩⟩,⟨⟨⟨q34,(n1 _)⟩,⟨q162,(n1 _)⟩⟩,⟨⟨q98,(n1 _)⟩,⟨q226,(n1 _)⟩⟩⟩⟩,⟨⟨⟨⟨q18,q274⟩,⟨q146,(n1 _)⟩⟩,⟨⟨q82,(n1 _)⟩,⟨q210,(n1 _)⟩⟩⟩,⟨⟨⟨q50,(n1 _)⟩,trivial⟩,⟨⟨q114,(n1 _)⟩,⟨q242,(n1 _)⟩⟩⟩⟩⟩,⟨⟨⟨⟨⟨q10,q266⟩,⟨q138,(n1 _)⟩⟩,⟨⟨q74,(n1 _)⟩,⟨q202,(n1 _)⟩⟩⟩,⟨⟨⟨q42,(n1 _)⟩,⟨q170,(n1 _)⟩⟩,⟨⟨q106,(n1 _)⟩,⟨q234,(n1 _)⟩⟩⟩⟩,⟨⟨⟨⟨q26,(n1 _)⟩,⟨q154,(n1 _)⟩⟩,⟨⟨q90,(n1 _)⟩,⟨q218,(n1 _)⟩⟩⟩,⟨⟨⟨q58,(n1 _)⟩,⟨q186,(n1 _)⟩⟩,⟨⟨q122,(n1 _)⟩,⟨q250,(n1 _)⟩⟩⟩⟩⟩⟩,⟨⟨⟨⟨⟨⟨q6,q262⟩,⟨q134,(n1 _)⟩⟩,⟨⟨q70,(n1 _)⟩,⟨q198,(n1 _)⟩⟩⟩,⟨⟨trivial,⟨q166,(n1 _)⟩⟩,⟨⟨q102,(n1 _)⟩,⟨q230,(n1 _)⟩⟩⟩⟩,⟨⟨⟨⟨q22,q278⟩,⟨q150,(n1 _)⟩⟩,⟨⟨q86,(n1 _)⟩,⟨q214,(n1 _)⟩⟩⟩,⟨⟨trivial,⟨q182,(n1 _)⟩⟩,⟨trivial,⟨q246,(n1 _)⟩⟩⟩⟩⟩,⟨⟨⟨⟨⟨q14,q270⟩,⟨q142,(n1 _)⟩⟩,⟨⟨q78,(n1 _)⟩,⟨q206,(n1 _)⟩⟩⟩,⟨⟨trivial,⟨q174,(n1 _)⟩⟩,⟨⟨q110,(n1 _)⟩,⟨q238,(n1 _)⟩⟩⟩⟩,⟨⟨⟨trivial,⟨q158,(n1 _)⟩⟩,⟨⟨q94,(n1 _)⟩,⟨q222,(n1 _)⟩⟩⟩,⟨⟨⟨q62,(n1 _)⟩,trivial⟩,⟨⟨q126,(n1 _)⟩,⟨q254,(n1 _)⟩⟩⟩⟩⟩⟩⟩⟩,⟨⟨⟨⟨⟨⟨⟨⟨q1,(n1 _)⟩,⟨q129,(n1 _)⟩⟩,⟨⟨q65,(n1 _)⟩,⟨q193,(n1 _)⟩⟩⟩,⟨⟨⟨q33,(n1 _)⟩,⟨q161,(n1 _)⟩⟩,⟨trivial,⟨q225,(n1 _)⟩⟩⟩⟩,⟨⟨⟨⟨q17,q273⟩,⟨q145,(n1 _)⟩⟩,⟨trivial,⟨q209,(n1 _)⟩⟩⟩,⟨⟨⟨q49,(n1 _)⟩,⟨q177,(n1 _)⟩⟩,⟨⟨q113,(n1 _)⟩,⟨q241,(n1 _)⟩⟩⟩⟩⟩,⟨⟨⟨⟨⟨q9,q265⟩,⟨q137,(n1 _)⟩⟩,⟨⟨q73,(n1 _)⟩,trivial⟩⟩,⟨⟨trivial,⟨q169,(n1 _)⟩⟩,⟨⟨q105,(n1 _)⟩,⟨q233,(n1 _)⟩⟩⟩⟩,⟨⟨⟨⟨q25,q281⟩,⟨q153,(n1 _)⟩⟩,⟨⟨q89,(n1 _)⟩,⟨q217,(n1 _)⟩⟩⟩,⟨⟨⟨q57,(n1 _)⟩,⟨q185,(n1 _)⟩⟩,⟨⟨q121,(n1 _)⟩,⟨q249,(n1 _)⟩⟩⟩⟩⟩⟩,⟨⟨⟨⟨⟨⟨q5,q261⟩,⟨q133,(n1 _)⟩⟩,⟨⟨q69,(n1 _)⟩,⟨q197,(n1 _)⟩⟩⟩,⟨⟨⟨q37,(n1 _)⟩,⟨q165,(n1 _)⟩⟩,⟨⟨q101,(n1 _)⟩,⟨q229,(n1 _)⟩⟩⟩⟩,⟨⟨⟨⟨q21,q277⟩,⟨q149,(n1 _)⟩⟩,⟨⟨q85,(n1 _)⟩,⟨q213,(n1 _)⟩⟩⟩,⟨⟨⟨q53,(n1 _)⟩,⟨q181,(n1 _)⟩⟩,⟨⟨q117,(n1 _)⟩,⟨q245,(n1 _)⟩⟩⟩⟩⟩,⟨⟨⟨⟨⟨q13,q269⟩,⟨q141,(n1 _)⟩⟩,⟨⟨q77,(n1 _)⟩,⟨q205,(n1 _)⟩⟩⟩,⟨⟨⟨q45,(n1 _)⟩,⟨q173,(n1 _)⟩⟩,⟨⟨q109,(n1 _)⟩,⟨q237,(n1 _)⟩⟩⟩⟩,⟨⟨⟨⟨q29,(n1 _)⟩,⟨q157,(n1 _)⟩⟩,⟨⟨q93,(n1 _)⟩,⟨q221,(n1 _)⟩⟩⟩,⟨⟨⟨q61,(n1 _)⟩,⟨q189,(n1 _)⟩⟩,⟨⟨q125,(n1 _)⟩,⟨q253,(n1 _)⟩⟩⟩⟩⟩⟩⟩,⟨⟨⟨⟨⟨⟨⟨q3,q259⟩,⟨q131,(n1 _)⟩⟩,⟨⟨q67,(n1 _)⟩,⟨q195,(n1 _)⟩⟩⟩,⟨⟨⟨q35,(n1 _)⟩,⟨q163,(n1 _)⟩⟩,⟨⟨q99,(n1 _)⟩,⟨q227,(n1 _)⟩⟩⟩⟩,⟨⟨⟨⟨q19,q275⟩,⟨q147,(n1 _)⟩⟩,⟨trivial,⟨q211,(n1 _)⟩⟩⟩,⟨⟨⟨q51,(n1 _)⟩,⟨q179,(n1 _)⟩⟩,⟨⟨q115,(n1 _)⟩,⟨q243,(n1 _)⟩⟩⟩⟩⟩,⟨⟨⟨⟨⟨q11,q267⟩,⟨q139,(n1 _)⟩⟩,⟨⟨q75,(n1 _)⟩,⟨q203,(n1 _)⟩⟩⟩,⟨⟨⟨q43,(n1 _)⟩,⟨q171,(n1 _)⟩⟩,⟨⟨q107,(n1 _)⟩,⟨q235,(n1 _)⟩⟩⟩⟩,⟨⟨⟨⟨q27,(n1 _)⟩,⟨q155,(n1 _)⟩⟩,⟨⟨q91,(n1 _)⟩,⟨q219,(n1 _)⟩⟩⟩,⟨⟨⟨q59,(n1 _)⟩,⟨q187,(n1 _)⟩⟩,⟨⟨q123,(n1 _)⟩,⟨q251,(n1 _)⟩⟩⟩⟩⟩⟩,⟨⟨⟨⟨⟨⟨q7,q263⟩,⟨q135,(n1 _)⟩⟩,⟨⟨q71,(n1 _)⟩,⟨q199,(n1 _)⟩⟩⟩,⟨⟨⟨q39,(n1 _)⟩,⟨q167,(n1 _)⟩⟩,⟨⟨q103,(n1 _)⟩,⟨q231,(n1 _)⟩⟩⟩⟩,⟨⟨⟨⟨q23,q279⟩,⟨q151,(n1 _)⟩⟩,⟨⟨q87,(n1 _)⟩,⟨q215,(n1 _)⟩⟩⟩,⟨⟨⟨q55,(n1 _)⟩,⟨q183,(n1 _)⟩⟩,⟨⟨q119,(n1 _)⟩,⟨q247,(n1 _)⟩⟩⟩⟩⟩,⟨⟨⟨⟨⟨q15,q271⟩,⟨q143,(n1 _)⟩⟩,⟨⟨q79,(n1 _)⟩,⟨q207,(n1 _)⟩⟩⟩,⟨⟨⟨q47,(n1 _)⟩,⟨q175,(n1 _)⟩⟩,trivial⟩⟩,⟨⟨⟨⟨q31,(n1 _)⟩,⟨q159,(n1 _)⟩⟩,⟨⟨q95,(n1 _)⟩,⟨q223,(n1 _)⟩⟩⟩,⟨⟨⟨q63,(n1 _)⟩,⟨q191,(n1 _)⟩⟩,⟨trivial,⟨q255,(n1 _)⟩⟩⟩⟩⟩⟩⟩⟩⟩
theorem fnA:AllT (FnQ Tryz.prog) 9 0 1 fn:=⟨⟨⟨⟨⟨⟨⟨⟨trivial,⟨g128,(n2 _)⟩⟩,⟨⟨g64,(n2 _)⟩,⟨g192,(n2 _)⟩⟩⟩,⟨⟨⟨g32,(n2 _)⟩,⟨g160,(n2 _)⟩⟩,⟨⟨g96,(n2 _)⟩,⟨g224,(n2 _)⟩⟩⟩⟩,⟨⟨⟨⟨g16,(n2 _)⟩,⟨g144,(n2 _)⟩⟩,⟨⟨g80,(n2 _)⟩,⟨g208,(n2 _)⟩⟩⟩,⟨⟨⟨g48,(n2 _)⟩,trivial⟩,⟨⟨g112,(n2 _)⟩,trivial⟩⟩⟩⟩,⟨⟨⟨⟨⟨g8,g264⟩,⟨g136,(n2 _)⟩⟩,⟨⟨g72,(n2 _)⟩,⟨g200,(n2 _)⟩⟩⟩,⟨⟨⟨g40,(n2 _)⟩,⟨g168,(n2 _)⟩⟩,⟨⟨g104,(n2 _)⟩,⟨g232,(n2 _)⟩⟩⟩⟩,⟨⟨⟨⟨g24,(n2 _)⟩,⟨g152,(n2 _)⟩⟩,⟨⟨g88,(n2 _)⟩,⟨g216,(n2 _)⟩⟩⟩,⟨⟨⟨g56,(n2 _)⟩,⟨g184,(n2 _)⟩⟩,⟨⟨g120,(n2 _)⟩,trivial⟩⟩⟩⟩⟩,⟨⟨⟨⟨⟨⟨g4,(n2 _)⟩,⟨g132,(n2 _)⟩⟩,⟨⟨g68,(n2 _)⟩,⟨g196,(n2 _)⟩⟩⟩,⟨⟨⟨g36,(n2 _)⟩,⟨g164,(n2 _)⟩⟩,⟨⟨g100,(n2 _)⟩,⟨g228,(n2 _)⟩⟩⟩⟩,⟨⟨⟨⟨g20,(n2 _)⟩,⟨g148,(n2 _)⟩⟩,⟨⟨g84,(n2 _)⟩,⟨g212,(n2 _)⟩⟩⟩,⟨⟨⟨g52,(n2 _)⟩,⟨g180,(n2 _)⟩⟩,⟨⟨g116,(n2 _)⟩,trivial⟩⟩⟩⟩,⟨⟨⟨⟨⟨g12,(n2 _)⟩,⟨g140,(n2 _)⟩⟩,⟨⟨g76,(n2 _)⟩,⟨g204,(n2 _)⟩⟩⟩,⟨⟨⟨g44,(n2 _)⟩,⟨g172,(n2 _)⟩⟩,⟨⟨g108,(n2 _)⟩,trivial⟩⟩⟩,⟨⟨⟨⟨g28,(n2 _)⟩,⟨g156,(n2 _)⟩⟩,⟨⟨g92,(n2 _)⟩,⟨g220,(n2 _)⟩⟩⟩,⟨⟨⟨g60,(n2 _)⟩,⟨g188,(n2 _)⟩⟩,⟨⟨g124,(n2 _)⟩,trivial⟩⟩⟩⟩⟩⟩,⟨⟨⟨⟨⟨⟨⟨g2,(n2 _)⟩,⟨g130,(n2 _)⟩⟩,⟨⟨g66,(n2 _)⟩,⟨g194,(n2 _)⟩⟩⟩,⟨⟨⟨g34,(n2 _)⟩,⟨g162,(n2 _)⟩⟩,⟨⟨g98,(n2 _)⟩,⟨g226,(n2 _)⟩⟩⟩⟩,⟨⟨⟨⟨g18,(n2 _)⟩,⟨g146,(n2 _)⟩⟩,⟨⟨g82,(n2 _)⟩,⟨g210,(n2 _)⟩⟩⟩,⟨⟨⟨g50,(n2 _)⟩,⟨g178,(n2 _)⟩⟩,⟨⟨g114,(n2 _)⟩,trivial⟩⟩⟩⟩,⟨⟨⟨⟨⟨g10,(n2 _)⟩,⟨g138,(n2 _)⟩⟩,⟨⟨g74,(n2 _)⟩,⟨g202,(n2 _)⟩⟩⟩,⟨⟨⟨g42,(n2 _)⟩,⟨g170,(n2 _)⟩⟩,⟨⟨g106,(n2 _)⟩,⟨g234,(n2 _)⟩⟩⟩⟩,⟨⟨⟨⟨g26,(n2 _)⟩,⟨g154,(n2 _)⟩⟩,⟨⟨g90,(n2 _)⟩,⟨g218,(n2 _)⟩⟩⟩,⟨⟨⟨g58,(n2 _)⟩,⟨g186,(n2 _)⟩⟩,⟨⟨g122,(n2 _)⟩,trivial⟩⟩⟩⟩⟩,⟨⟨⟨⟨⟨⟨g6,(n2 _)⟩,⟨g134,(n2 _)⟩⟩,⟨⟨g70,(n2 _)⟩,⟨g198,(n2 _)⟩⟩⟩,⟨⟨⟨g38,(n2 _)⟩,⟨g166,(n2 _)⟩⟩,⟨⟨g102,(n2 _)⟩,⟨g230,(n2 _)⟩⟩⟩⟩,⟨⟨⟨⟨g22,(n2 _)⟩,⟨g150,(n2 _)⟩⟩,⟨⟨g86,(n2 _)⟩,⟨g214,(n2 _)⟩⟩⟩,⟨⟨⟨g54,(n2 _)⟩,⟨g182,(n2 _)⟩⟩,⟨⟨g118,(n2 _)⟩,trivial⟩⟩⟩⟩,⟨⟨⟨⟨⟨g14,(n2 _)⟩,⟨g142,(n2 _)⟩⟩,⟨⟨g78,(n2 _)⟩,⟨g206,(n2 _)⟩⟩⟩,⟨⟨⟨g46,(n2 _)⟩,⟨g174,(n2 _)⟩⟩,trivial⟩⟩,⟨⟨⟨⟨g30,(n2 _)⟩,⟨g158,(n2 _)⟩⟩,⟨⟨g94,(n2 _)⟩,⟨g222,(n2 _)⟩⟩⟩,⟨⟨⟨g62,(n2 _)⟩,⟨g190,(n2 _)⟩⟩,⟨⟨g126,(n2 _)⟩,trivial⟩⟩⟩⟩⟩⟩⟩,⟨⟨⟨⟨⟨⟨⟨trivial,⟨g129,(n2 _)⟩⟩,⟨⟨g65,(n2 _)⟩,⟨g193,(n2 _)⟩⟩⟩,⟨⟨⟨g33,(n2 _)⟩,⟨g161,(n2 _)⟩⟩,⟨⟨g97,(n2 _)⟩,⟨g225,(n2 _)⟩⟩⟩⟩,⟨⟨⟨⟨g17,(n2 _)⟩,⟨g145,(n2 _)⟩⟩,⟨⟨g81,(n2 _)⟩,trivial⟩⟩,⟨⟨⟨g49,(n2 _)⟩,⟨g177,(n2 _)⟩⟩,⟨⟨g113,(n2 _)⟩,trivial⟩⟩⟩⟩,⟨⟨⟨⟨⟨g9,(n2 _)⟩,⟨g137,(n2 _)⟩⟩,⟨⟨g73,(n2 _)⟩,⟨g201,(n2 _)⟩⟩⟩,⟨⟨⟨g41,(n2 _)⟩,⟨g169,(n2 _)⟩⟩,⟨⟨g105,(n2 _)⟩,⟨g233,(n2 _)⟩⟩⟩⟩,⟨⟨⟨⟨g25,(n2 _)⟩,⟨g153,(n2 _)⟩⟩,⟨⟨g89,(n2 _)⟩,⟨g217,(n2 _)⟩⟩⟩,⟨⟨⟨g57,(n2 _)⟩,⟨g185,(n2 _)⟩⟩,⟨⟨g121,(n2 _)⟩,trivial⟩⟩⟩⟩⟩,⟨⟨⟨⟨⟨⟨g5,(n2 _)⟩,⟨g133,(n2 _)⟩⟩,⟨⟨g69,(n2 _)⟩,⟨g197,(n2 _)⟩⟩⟩,⟨⟨⟨g37,(n2 _)⟩,⟨g165,(n2 _)⟩⟩,⟨⟨g101,(n2 _)⟩,trivial⟩⟩⟩,⟨⟨⟨⟨g21,(n2 _)⟩,⟨g149,(n2 _)⟩⟩,⟨⟨g85,(n2 _)⟩,⟨g213,(n2 _)⟩⟩⟩,⟨⟨⟨g53,(n2 _)⟩,⟨g181,(n2 _)⟩⟩,⟨⟨g117,(n2 _)⟩,trivial⟩⟩⟩⟩,⟨⟨⟨⟨⟨g13,(n2 _)⟩,⟨g141,(n2 _)⟩⟩,⟨⟨g77,(n2 _)⟩,⟨g205,(n2 _)⟩⟩⟩,⟨⟨⟨g45,(n2 _)⟩,⟨g173,(n2 _)⟩⟩,⟨⟨g109,(n2 _)⟩,trivial⟩⟩⟩,⟨⟨⟨⟨g29,(n2 _)⟩,⟨g157,(n2 _)⟩⟩,⟨⟨g93,(n2 _)⟩,⟨g221,(n2 _)⟩⟩⟩,⟨⟨⟨g61,(n2 _)⟩,⟨g189,(n2 _)⟩⟩,⟨⟨g125,(n2 _)⟩,trivial⟩⟩⟩⟩⟩⟩,⟨⟨⟨⟨⟨⟨⟨g3,(n2 _)⟩,⟨g131,(n2 _)⟩⟩,⟨⟨g67,(n2 _)⟩,⟨g195,(n2 _)⟩⟩⟩,⟨⟨⟨g35,(n2 _)⟩,⟨g163,(n2 _)⟩⟩,⟨⟨g99,(n2 _)⟩,⟨g227,(n2 _)⟩⟩⟩⟩,⟨⟨⟨⟨g19,(n2 _)⟩,trivial⟩,⟨⟨g83,(n2 _)⟩,trivial⟩⟩,⟨⟨⟨g51,(n2 _)⟩,⟨g179,(n2 _)⟩⟩,⟨⟨g115,(n2 _)⟩,trivial⟩⟩⟩⟩,⟨⟨⟨⟨⟨g11,(n2 _)⟩,⟨g139,(n2 _)⟩⟩,⟨⟨g75,(n2 _)⟩,⟨g203,(n2 _)⟩⟩⟩,⟨⟨⟨g43,(n2 _)⟩,⟨g171,(n2 _)⟩⟩,⟨⟨g107,(n2 _)⟩,trivial⟩⟩⟩,⟨⟨⟨⟨g27,(n2 _)⟩,⟨g155,(n2 _)⟩⟩,⟨⟨g91,(n2 _)⟩,⟨g219,(n2 _)⟩⟩⟩,⟨⟨⟨g59,(n2 _)⟩,⟨g187,(n2 _)⟩⟩,⟨⟨g123,(n2 _)⟩,trivial⟩⟩⟩⟩⟩,⟨⟨⟨⟨⟨⟨g7,(n2 _)⟩,⟨g135,(n2 _)⟩⟩,⟨⟨g71,(n2 _)⟩,⟨g199,(n2 _)⟩⟩⟩,⟨⟨⟨g39,(n2 _)⟩,⟨g167,(n2 _)⟩⟩,⟨⟨g103,(n2 _)⟩,⟨g231,(n2 _)⟩⟩⟩⟩,⟨⟨⟨⟨g23,(n2 _)⟩,⟨g151,(n2 _)⟩⟩,⟨⟨g87,(n2 _)⟩,⟨g215,(n2 _)⟩⟩⟩,⟨⟨⟨g55,(n2 _)⟩,⟨g183,(n2 _)⟩⟩,⟨⟨g119,(n2 _)⟩,trivial⟩⟩⟩⟩,⟨⟨⟨⟨⟨g15,(n2 _)⟩,⟨g143,(n2 _)⟩⟩,⟨⟨g79,(n2 _)⟩,⟨g207,(n2 _)⟩⟩⟩,⟨⟨⟨g47,(n2 _)⟩,⟨g175,(n2 _)⟩⟩,⟨⟨g111,(n2 _)⟩,trivial⟩⟩⟩,⟨⟨⟨⟨g31,(n2 _)⟩,⟨g159,(n2 _)⟩⟩,⟨⟨g95,(n2 _)⟩,⟨g223,(n2 _)⟩⟩⟩,⟨⟨⟨g63,(n2 _)⟩,⟨g191,(n2 _)⟩⟩,⟨⟨g127,(n2 _)⟩,trivial⟩⟩⟩⟩⟩⟩⟩⟩
theorem x117:ExtQ Tryz.prog 117 (.cpy 115):=copyQ
theorem x176:ExtQ Tryz.prog 176 (.cnt):=fun args w=>run_callFunc_extern (fn:=Tryz.f176) (by kernel_rfl) (by kernel_rfl) (by kernel_rfl) (by kernel_rfl) (e:=Extern.BytealgCount.count) (by kernel_rfl) args w
theorem x209:ExtQ Tryz.prog 209 (.mnz 5):=⟨#[3],62,by kernel_rfl,fun args w=>run_callFunc_extern (fn:=Tryz.f209) (by kernel_rfl) (by kernel_rfl) (by kernel_rfl) (by kernel_rfl) (e:=Extern.BytealgMakeNoZero.makeNoZero #[3] #[62]) (by kernel_rfl) args w⟩
theorem x229:ExtQ Tryz.prog 229 (.idx):=fun args w=>run_callFunc_extern (fn:=Tryz.f229) (by kernel_rfl) (by kernel_rfl) (by kernel_rfl) (by kernel_rfl) (e:=Extern.BytealgIndexByte.indexByte) (by kernel_rfl) args w
theorem xs:∀ g,ExtQ Tryz.prog g (ext g):=by
  intro g
  unfold ext
  split
  · exact x117
  · exact x176
  · exact x209
  · exact x229
  · trivial
theorem ok:Ok Tryz.prog pr:=ok_of tyA fnA rfl rfl (by kernel_rfl) xs
theorem lb:zb9 Tryz.prog pr:=lib_none fun _=>rfl
end Go.Proofs.YtepaekbjoombpaaGreatDoor.Pt
end
section
namespace Go.Proofs.YtepaekbjoombpaaGreatDoor
open Go Go.Proofs Go.Eng Go.Run Tab
set_option maxRecDepth 100000
set_option linter.unusedSimpArgs false
set_option linter.unusedVariables false
set_option maxHeartbeats 2000000
set_option linter.defProp false
def zbH:=(And.intro (And.intro (And.intro @zeK (And.intro @zef @agg3)) (And.intro (And.intro @by26 @zfv) (And.intro @zgS @zdl))) (And.intro (And.intro @zes (And.intro @zcQ @inf3)) (And.intro (And.intro @sz22 @sz26) (And.intro @sz3 @Tryz.underlying22))))
theorem neEnQ {er:Env}{h:Eng.Heap}{ty yt:TypeId}{x y:Operand}{xs ys:List Int}(h4:xs.length=4)(h4':ys.length=4){K:Value→Eng.Heap→Prop}(hx:ev er x=.agg (Eng.ints xs).toArray)(hy:ev er y=.agg (Eng.ints ys).toArray)(H:K (.bool (!decide (xs=ys))) h):opQS Tryz.prog EqH (.binOp .neq 26 x y yt) ty er h K:=by
  unfold opQS
  have hl:xs.length=ys.length:=by omega
  have hfl:((Pt.pr.ty 26).getD ⟨0,0,.any,.other,[]⟩).fl=List.replicate 4 .i:=by kernel_rfl
  refine⟨.bool (!decide (xs=ys)),fun h' hr=>?_,H⟩
  refine eqAggW Pt.ok (ti:=(Pt.pr.ty 26).getD ⟨0,0,.any,.other,[]⟩) (by kernel_rfl) (a:=.agg (xs.map (T.int .i64))) (b:=.agg (ys.map (T.int .i64))) (r:=decide (xs=ys)) ?_ ?_ ?_ (.inr rfl) hx hy ⟨by simp,rfl⟩
  · simp only [VR]; exact⟨_,rfl,by simpa using zhW xs⟩
  · simp only [VR]; exact⟨_,rfl,by simpa using zhW ys⟩
  · have:=ziJ xs ys hl
    unfold zbj
    rw [hfl]
    rw [h4] at this
    simpa [List.replicate_succ] using this
theorem en_eq {a b:En}:[a.d,a.f,a.t,a.a]=[b.d,b.f,b.t,b.a]↔a=b:=by cases a; cases b; simp
theorem same27 (acc cl acc2 cl2:Int)(a b:Option Addr)(n c m k:Nat)(es fs:List En)(h:Eng.Heap)(hr:Row h a (ensV es))(hs:Row h b (ensV fs))(hn:n=es.length)(hm:m=fs.length)(hl:n≤1000000)(hl2:m≤1000000) :
    zb Tryz.prog 27 #[.agg #[.int .i64 acc,.int .i64 cl,.slice a n c],.agg #[.int .i64 acc2,.int .i64 cl2,.slice b m k]] h (fun v h'=>v=.bool (decide (acc=acc2∧cl=cl2∧es=fs))∧Ext h h'):=by
  (refine zh Tryz.func27 rfl bod27 ?_; simp only [Tryz.ntmps27,Tryz.results27,za,zm,splice,Value.cells,Value.oneCell',Nat.reduceAdd,Nat.reduceSub,Nat.reduceMul,Nat.reduceLeDiff,Int.reduceEq,Nat.reduceEqDiff,zbH])
  have q0:=pn0 (h:=h) (o:=.cells #[.int .i64 acc,.int .i64 cl,.slice a n c] 24) (o':=.cells #[.int .i64 acc2,.int .i64 cl2,.slice b m k] 24)
  have q1:=pn1 (h:=h) (o:=.cells #[.int .i64 acc,.int .i64 cl,.slice a n c] 24) (o':=.cells #[.int .i64 acc2,.int .i64 cl2,.slice b m k] 24)
  have x0:Ext h ((h.push (.cells #[.int .i64 acc,.int .i64 cl,.slice a n c] 24)).push (.cells #[.int .i64 acc2,.int .i64 cl2,.slice b m k] 24)):=((Ext.refl h).push _).push _
  obtain⟨h1,hh1⟩:∃ h1,h1=(h.push (.cells #[.int .i64 acc,.int .i64 cl,.slice a n c] 24)).push (.cells #[.int .i64 acc2,.int .i64 cl2,.slice b m k] 24):=⟨_,rfl⟩
  by_cases ha:acc=acc2
  · by_cases hc:cl=cl2
    · by_cases hnm:(n:Int)=m
      · simp only [ha,hc,hnm,decide_true,Bool.not_true,za,Value.cells,Value.oneCell',Nat.reduceAdd,Nat.reduceSub,Nat.reduceMul,Nat.reduceLeDiff,Int.reduceEq,Nat.reduceEqDiff,zbH]
        subst ha hc
        obtain rfl:n=m:=by omega
        rw [← hh1]
        rw [← hh1] at q0 q1 x0
        clear hh1
        refine zX [4,5,27,28,29,30,31,32,33,34,35,36,37,38,39,40,41,42,43,44] (fun g h'=>h'=h1∧∃ i:Nat,i≤n∧g 5=.int .i64 i∧∀ j (hj:j<i) (h1:j<es.length) (h2:j<fs.length),es[j]=fs[j]) (fun g _=>match g 5 with | .int _ m=>n - m.toNat | _=>0) ⟨rfl,0,by omega,rfl,fun j hj=>by omega⟩ ?_
        rintro g h' ⟨rfl,i,hin,hg,hno⟩
        by_cases hi:i<n
        · have hsm:a.isSome=true:=hr.isSome (by rw [zG]; omega)
          have hsm2:b.isSome=true:=hs.isSome (by rw [zG]; omega)
          have hi1:i<es.length:=by omega
          have hi2:i<fs.length:=by omega
          simp only [hg,q0,za,Value.cells,Value.oneCell',Nat.reduceAdd,Nat.reduceSub,Nat.reduceMul,Nat.reduceLeDiff,Int.reduceEq,Nat.reduceEqDiff,zbH]
          refine⟨fun _=>?_,fun hge=>absurd hge (by omega)⟩
          refine zco (by kernel_rfl) zgU [(0,0),(1,0),(2,0),(3,0),(4,0),(5,0),(6,0),(7,0),(8,0),(9,0),(10,0)] (by kernel_rfl) rfl (by kernel_rfl) ?_
          simp only [hg,q0,q1,rowE (hr.ext x0) hi1,rowE (hs.ext x0) hi2,Int.toNat_natCast,za,Value.cells,Value.oneCell',Nat.reduceAdd,Nat.reduceSub,Nat.reduceMul,Nat.reduceLeDiff,Int.reduceEq,Nat.reduceEqDiff,zC,zbH]
          repeat (refine And.intro (by first | omega | (rw [zg]; omega) | rfl | assumption) ?_)
          refine neEnQ (xs:=[es[i].d,es[i].f,es[i].t,es[i].a]) (ys:=[fs[i].d,fs[i].f,fs[i].t,fs[i].a]) rfl rfl rfl rfl ?_
          by_cases heq:es[i]=fs[i]
          · simp only [heq,decide_true,Bool.not_true,zjG,za,Value.cells,Value.oneCell',Nat.reduceAdd,Nat.reduceSub,Nat.reduceMul,Nat.reduceLeDiff,Int.reduceEq,Nat.reduceEqDiff,zC,zbH]
            refine⟨by rw [zg]; omega,zD (by kernel_rfl) ⟨rfl,i+1,by omega,rfl,fun j hj h1 h2=>?_⟩ ?_⟩
            · by_cases hji:j=i
              · subst hji; exact heq
              · exact hno j (by omega) h1 h2
            · show n - ((i:Int)+1).toNat<n - (i:Int).toNat
              omega
          · have hne:¬ es=fs:=fun hh=>heq (by subst hh; rfl)
            have hne2:¬ ([es[i].d,es[i].f,es[i].t,es[i].a]=[fs[i].d,fs[i].f,fs[i].t,fs[i].a]):=fun hh=>heq (en_eq.1 hh)
            simp only [hne2,decide_false,Bool.not_false,zjG,za,Value.cells,Value.oneCell',Nat.reduceAdd,Nat.reduceSub,Nat.reduceMul,Nat.reduceLeDiff,Int.reduceEq,Nat.reduceEqDiff,zC,zbH]
            refine⟨by simp [hne],x0⟩
        · have hes:es=fs:=List.ext_getElem (by omega) fun j h1 h2=>hno j (by omega) h1 h2
          simp only [hg,q0,za,Value.cells,Value.oneCell',Nat.reduceAdd,Nat.reduceSub,Nat.reduceMul,Nat.reduceLeDiff,Int.reduceEq,Nat.reduceEqDiff,zbH]
          refine⟨fun hlt=>absurd hlt (by omega),fun _=>⟨by simp [hes],x0⟩⟩
      · have hne:¬ (acc=acc2∧cl=cl2∧es=fs):=fun hh=>hnm (by rw [hn,hm,hh.2.2])
        simp only [hne,decide_false]
        simp only [ha,hc,hnm,decide_true,decide_false,Bool.not_true,Bool.not_false,za,Value.cells,Value.oneCell',Nat.reduceAdd,Nat.reduceSub,Nat.reduceMul,Nat.reduceLeDiff,Int.reduceEq,Nat.reduceEqDiff,zbH]
        all_goals exact ((Ext.refl h).push _).push _
    · have hne:¬ (acc=acc2∧cl=cl2∧es=fs):=fun hh=>hc hh.2.1
      simp only [hne,decide_false]
      simp only [ha,hc,decide_true,decide_false,Bool.not_true,Bool.not_false,za,Value.cells,Value.oneCell',Nat.reduceAdd,Nat.reduceSub,Nat.reduceMul,Nat.reduceLeDiff,Int.reduceEq,Nat.reduceEqDiff,zbH]
      all_goals exact ((Ext.refl h).push _).push _
  · have hne:¬ (acc=acc2∧cl=cl2∧es=fs):=fun hh=>ha hh.1
    simp only [hne,decide_false]
    simp only [ha,decide_true,decide_false,Bool.not_true,Bool.not_false,za,Value.cells,Value.oneCell',Nat.reduceAdd,Nat.reduceSub,Nat.reduceMul,Nat.reduceLeDiff,Int.reduceEq,Nat.reduceEqDiff,zbH]
    all_goals exact ((Ext.refl h).push _).push _
end Go.Proofs.YtepaekbjoombpaaGreatDoor
end
