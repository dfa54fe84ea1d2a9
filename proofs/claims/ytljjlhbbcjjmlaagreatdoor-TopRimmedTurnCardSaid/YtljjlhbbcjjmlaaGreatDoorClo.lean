/- What functions lead to, and which ones are reached. No condition. -/
import Derived.Test.YtljjlhbbcjjmlaaGreatDoorRows
import Derived.JoinedOf
import GoSem.ClaimGoes
import Derived.KernelRfl
namespace Go.Proofs.YtljjlhbbcjjmlaaGreatDoor.Clo
open Go Go.Proofs
section
variable {P:Program}{k m:Nat}
set_option maxRecDepth 100000
set_option linter.unusedVariables false
noncomputable def hasR (n:Nat):List Nat->Bool:=List.rec (motive:=fun _=>Bool) false (fun a _ ih=>Bool.rec (motive:=fun _=>Bool) ih true (Nat.beq n a))
theorem hasR_eq (n:Nat):∀l:List Nat,hasR n l=l.contains n
 |[]=>rfl
 |a::l=>by
  have ih:=hasR_eq n l;have h1:hasR n (a::l)=Bool.rec (motive:=fun _=>Bool) (hasR n l) true (Nat.beq n a):=rfl;rw[h1,List.contains_cons,ih];have h2:(n==a)=Nat.beq n a:=by rw[Bool.eq_iff_iff,beq_iff_eq,Nat.beq_eq]
  rw[h2];cases Nat.beq n a<;>rfl
noncomputable def cl (T:List (List Nat)):Nat->List Nat->List Nat->List Nat
 |0,_,seen=>seen.reverse
 |_+1,[],seen=>seen.reverse
 |k+1,f::todo,seen=>Bool.rec (motive:=fun _=>List Nat) (cl T k ((T[f]?).getD []++todo) (f::seen)) (cl T k todo seen) (hasR f seen)
theorem nx {α β:Type}{f:α->β}{l:List α}{i:Nat}{X Y:List β}(h:((l.drop k).take i).map f=X)(hm:k+i=m)(t:(l.drop m).map f=Y):(l.drop k).map f=X++Y:=by
 subst hm;rw[<-h,<-t,<-List.drop_drop,<-List.map_append,List.take_append_drop]
theorem cl_eq {P:Program}{T:List (List Nat)}(hT:P.funcs.toList.map P.leadsTo=T):∀(k:Nat) (todo seen:List Nat),P.closureVia k todo seen=cl T k todo seen
 |0,todo,seen=>by cases todo<;>rfl
 |k+1,[],seen=>rfl
 |k+1,f::todo,seen=>by
  have hg:(P.funcs[f]?).elim [] P.leadsTo=(T[f]?).getD []:=by
   rw[<-hT,List.getElem?_map,Array.getElem?_toList];cases P.funcs[f]? <;>rfl
  unfold Program.closureVia cl;rw[hasR_eq,hg];cases hs:seen.contains f with
  |true=>rw[if_pos rfl];exact cl_eq hT k todo seen
  |false=>rw[if_neg (by decide)];exact cl_eq hT k _ _
theorem clo_eq {T:List (List Nat)}(hT:P.funcs.toList.map P.leadsTo=T)(f:Nat):P.closure f=cl T (1+(T.map fun l=>l.length+1).sum) [f] []:=by
 unfold Program.closure;rw[cl_eq hT,<-hT,List.map_map];rfl
noncomputable def A0:List (List Nat):=[[],[],[1],[5,6,7,7,8,9,10,10,11,11,5],[12,14,13,11,15,16,17,18,5],[19,20],[],[21,22,23],[24,25,26],[24,24,27,28],[24,29,26],[],[30,23],[31,32],[],[33,34,35,37,36,38],[33,39],[33,40,35],[33,41,42,44,43,45],[46,47],[48,48,12,12,48,7,48,7,49,48,49,50,51,51,52,48,52,52,53,48,53,54,54,54,55,56,56,57,57,11,11,48,11,11],[30,58],[],[59],[60,61],[63,62],[64],[65],[],[26,67,66],[58,22],[],[],[69],[70,62],[71,71],[72,45],[73],[],[42,74,75,75],[34],[76,77,78,78],[],[79],[],[81,80],[82,83],[84,85,87,88,86,87,88,86,90,89,87,89,90,91,87,91,90,88,92,87,88,92,87,93,88,88,88,88,94,93,87,95,90,95,87,88,96,87,88,96,97,98,90,88,98,90,88,99,90,88,99,88,88,88,88,94,100,88,101,88,101,88,94,100,88,101,88,101,102,103],[],[104,105],[30,106],[12,58,107],[104,105,108],[104,109,110,111,113,112],[104,58,58,109],[104,37,36,107,114],[30,115,59,72,114],[30,58,116,106],[117,62],[118],[25,25,25],[],[79],[],[119],[26],[],[68],[120],[121,34,34,122],[],[],[123],[],[],[],[124],[125],[107],[],[126,127,128,129,130,131,132,133,134,80,80],[135,136],[137,138],[139,140,141,141,141,141,142,142,143,144,144,145,145,147,146,147,146,148,148,149,149,150,152,151,152,151,152,153,152,153,152,153,154,147,155,147,155,156,152],[157],[158,159]]
theorem a0:((Tryz.prog.funcs.toList.drop 0).take 86).map Tryz.prog.leadsTo=A0:=by kernel_rfl
noncomputable def A1:List (List Nat):=[[160,161,162],[88,88,88,94],[],[91],[88,88,94],[160,162,164,163],[165,166],[95],[],[160,78,167,168],[165],[85,81],[169,170],[169,170,171,173,174,172],[101],[175],[],[176,177,176],[30,58,37,36,38],[178,23],[],[],[179,116],[105,179],[81,180],[],[],[],[],[],[],[],[],[],[181,181],[34,34],[182],[],[],[183],[132],[184,184],[185,186],[187,187,187,188],[],[132,132,132],[181,181],[132,132],[132,132,132,132],[],[],[189,190],[191,192,193,195,194,195,194,195,194,195,196,195,196,195,196,197,197,198,199,195,200,195,200,195,201,202,195,195,203,195,203,195,204,195,195,204,205,205,206,207,195,208,195,208,195,208,195,195,209,195,208,195,195,211,210,195,195,211,210],[212],[212],[213,214,215,216],[143,216],[213,217],[213,218],[213,218],[213,219,220,219],[],[141,141,221],[213,218,222],[213,218,223],[224,214,215],[],[224,217],[225,225,227,226],[],[],[],[228,228],[229,167],[158,231,230,159],[228],[167,168],[],[162,28],[160,228],[162,233,234,232],[],[],[165,162,28],[235,173,235,81,235,81,170,170],[170,170]]
theorem a1:((Tryz.prog.funcs.toList.drop 86).take 86).map Tryz.prog.leadsTo=A1:=by kernel_rfl
noncomputable def A2:List (List Nat):=[[],[229,167,167,168],[],[],[236,175,237],[238],[59],[116],[239,240,241,242,243,244,245,246,180,180],[],[],[],[132,132],[81],[],[188],[247,247,247],[248,249],[250,251,252,252,252,253,254,254,254,254,255,255,256,257,257,258,258,259,260,262,261,262,261,262,261,262,263,262,264,266,265,266,265,268,267,268,267,262],[195,195,195,195,211],[195,195,195,211],[195,211],[269,271,270],[],[194,269,271,272],[198],[269,273,271,270],[269,274],[269,275,276],[194,269,271,277,270,278],[269,279],[280,279,281,282],[280,283,279,286],[269,287,279,233,288,232],[269,289],[269,279],[290],[208],[209],[],[],[291,219],[292],[293,294,295],[296,297,298],[219,299],[299],[300,62],[301],[],[299,215],[302,303,304,221,305,306],[213],[307,307,308,308,309],[],[],[310,62],[311],[312],[161],[312],[],[28],[],[],[314,313,237,237],[],[],[315,315],[185,186],[316,316,316,317],[],[],[],[],[132],[318,319,320],[321,60,321,60,321,8,321,8,321,10,323,322,321,324,9,321,323,9,321,325,321,324,326,321,324,326,327,328,328,329,329,330,324,331,324,331,321,324,332,321,324,332,324,333,333,324,333,324,324,324,324,334,324,333],[335],[262,262,262],[336],[336,337],[336],[336],[336,338,338],[336,339,339,340,340,340]]
theorem a2:((Tryz.prog.funcs.toList.drop 172).take 86).map Tryz.prog.leadsTo=A2:=by kernel_rfl
noncomputable def A3:List (List Nat):=[[336,340,340],[336,341,345,344,337],[346,347,348],[346,350,349],[],[346,350,349,351],[346,350,352,349,351],[],[],[],[],[353,354,230],[355,62],[],[270,278,357,356],[358],[276,274],[287],[],[360],[],[271,361,62,278,289],[353,269],[],[28],[284,230],[271,285],[362,62],[],[363,62],[78],[271,278,285,278,364,365],[],[219,219,219,219,366,366],[368,367,369,371,370,373,372],[],[],[],[],[],[374],[375,295,294],[],[293],[],[220,302],[220],[],[],[376,376],[],[377],[],[229,64],[],[177],[],[],[317],[378,378,378],[379,380,381,383,382,383,382,383,382,383,384,383,385,383,385,383,385,383,385,386,386,386,387,389,388,389,388,390,389,391,389,391,392,392,393,393,394,395,396,397,395,395,395,395,395],[398,399,400,401,400,15,400,15,400,15,16,402,402,403,403,404,404,404,405,400,17,400,17,400,406,400,400,406,407,400,408,408,18,400,409,400,409,409,400,409,400,409,400,409,410,400,409,400,409],[411,412,413,415,414,415,414,415,414,415,416,417,417,418,419,415,415,420,415,415,420,421,421,415,422,415,422,423,424,425,426,426,426,428,427,428,427,428,427,428,427,428,427,428,427],[324],[24,429],[324],[],[60,430],[24,25,430,28],[431,433,432],[431,434,432],[327,435,436],[437,435],[437,432,24,438],[24,24,439,27],[440],[333],[],[441,339,339,343],[],[340,340],[443,442],[],[342,343,337],[],[340,340,340,340,340]]
theorem a3:((Tryz.prog.funcs.toList.drop 258).take 86).map Tryz.prog.leadsTo=A3:=by kernel_rfl
noncomputable def A4:List (List Nat):=[[],[],[444,339,445,446,447,448,343,337],[],[],[],[],[447],[],[287,449,230],[275],[],[],[],[359],[359],[],[],[],[],[81,450],[68],[132],[],[],[],[451],[451],[452,453],[454,453],[455,456,455,457,456,458],[293,295,375,294,375,459,460],[],[],[],[461,461,461,461],[461,461],[],[462,463,464,465],[],[462,463,466,466],[467,463,468],[469,465],[469],[467,470,471,472,466],[],[469,465,473,472,466],[467,470,471,472],[467,474],[467,475,476,477,466,478,480,479,480],[481,481,482,483,485,484],[],[481,481,486,486,487],[481,481,482,483,485],[488],[488],[],[33,42],[33,39,489],[490],[490,491],[33,76,491,492,43,78,76],[69,494,40,40,122],[33,41,78,45],[33,40,42,495,62,78],[],[496,496,497,497,498,498],[499],[499],[499],[500,501,502],[],[500,501,502,503],[500,504,502,503],[500,504],[500,504],[414,416],[500,505,505],[416,500,506,347],[500,507,507],[500,508,508,509,509,510,43,511,43],[512,513],[],[],[],[]]
theorem a4:((Tryz.prog.funcs.toList.drop 344).take 86).map Tryz.prog.leadsTo=A4:=by kernel_rfl
noncomputable def A5:List (List Nat):=[[],[25,25],[],[433],[],[514],[515],[25,25,432],[27],[28],[],[339,339,339],[516],[],[517,339,339,445],[518],[],[519],[],[275],[520,521,522,523,524,525,526,527,450,450],[],[528],[529],[530,452],[531],[],[],[532],[],[],[],[533,534,475,535],[475,475],[],[477,466],[],[462,536,464],[],[467,476,537,539,538],[475,475,475],[],[],[540,542,541,542,542,542,543,545,544],[540,542,472,543,545,544],[546,442],[468,547],[],[479],[],[],[550,550,551],[],[552,553],[554],[],[555],[552,553,555,555],[],[35,489,71],[15,34,34,33,556,557],[],[493],[],[78,78],[],[],[],[],[],[558,559],[560,560],[506,347,562,561],[],[563,566,565,567,564],[347],[],[563,568],[568],[569,571,570],[],[],[573,573,574,574,575],[573,573,574,574,576],[491],[577,578]]
theorem a5:((Tryz.prog.funcs.toList.drop 430).take 86).map Tryz.prog.leadsTo=A5:=by kernel_rfl
noncomputable def A6:List (List Nat):=[[],[339,339],[],[],[],[579,579],[185,186],[580,580,580,581],[],[],[],[],[],[582,583,582,457,456],[],[],[],[475],[475],[584],[475],[585],[],[465,465,479],[],[],[],[],[586],[471],[],[548,549],[589],[590,590,590,590,590,590,348,347,348],[591,591],[],[],[],[],[],[],[592,78,45],[593,594,595,560,596,596,596],[],[597,442],[],[],[566,598,502,599,502],[],[600],[601],[],[],[],[],[572,62],[],[],[602],[603,602,604],[606,575,605],[],[],[],[581],[607,607,607],[455],[],[],[],[588,587],[],[],[],[],[],[608],[560],[],[560],[609],[],[568,568,610,348,347,348],[],[],[568,568]]
theorem a6:((Tryz.prog.funcs.toList.drop 516).take 86).map Tryz.prog.leadsTo=A6:=by kernel_rfl
noncomputable def A7:List (List Nat):=[[],[],[],[],[],[],[493],[],[612,611,610],[],[],[],[],[],[],[],[],[],[],[],[],[],[],[],[],[],[],[],[],[],[],[]]
theorem a7:(Tryz.prog.funcs.toList.drop 602).map Tryz.prog.leadsTo=A7:=by kernel_rfl
noncomputable def LL:List (List Nat):=A0++(A1++(A2++(A3++(A4++(A5++(A6++(A7)))))))
theorem all:Tryz.prog.funcs.toList.map Tryz.prog.leadsTo=LL:=nx a0 rfl (nx a1 rfl (nx a2 rfl (nx a3 rfl (nx a4 rfl (nx a5 rfl (nx a6 rfl (a7)))))))
theorem ny {α:Type}{f:α->Bool}{l:List α}{i:Nat}(h:((l.drop k).take i).any f=false)(hm:k+i=m)(t:(l.drop m).any f=false):(l.drop k).any f=false:=by
 subst hm;rw[<-List.take_append_drop i (l.drop k),List.any_append,h,List.drop_drop,t];rfl
theorem goes_none (hn:P.funcs.toList.any Func.goes=false)(f:FuncId):P.goes f=false:=by
 have h1:∀g:Nat,(P.funcs[g]?).any Func.goes=false:=fun g=>by
  cases hg:P.funcs[g]? with
  |none=>rfl
  |some fn=>
   have hm:fn∈P.funcs.toList:=Array.mem_toList_iff.2 (Array.mem_of_getElem? hg);have:=List.any_eq_false.1 hn fn hm;simpa using this
 have h2:P.funcs.any Func.goes=false:=by rw[<-Array.any_toList];exact hn
 unfold Program.goes;rw[h2,Bool.and_false,Bool.or_false,List.any_eq_false];intro g _;rw[h1 g];exact Bool.false_ne_true
theorem goesBy_none (hn:P.funcs.toList.any Func.goes=false)(c:OpenClaim):false=c.goesBy P:=by
 have h1:∀o:Option FuncId,o.any P.goes=false:=fun o=>by cases o<;>simp[goes_none hn]
 have h2:P.inits.toList.any P.goes=false:=List.any_eq_false.2 fun x _=>by simp[goes_none hn]
 unfold OpenClaim.goesBy Program.goesAt Program.goesFrom;rw[h1,h2];cases c.start<;>rfl
theorem g0:((Tryz.prog.funcs.toList.drop 0).take 86).any Func.goes=false:=by kernel_rfl
theorem g1:((Tryz.prog.funcs.toList.drop 86).take 86).any Func.goes=false:=by kernel_rfl
theorem g2:((Tryz.prog.funcs.toList.drop 172).take 86).any Func.goes=false:=by kernel_rfl
theorem g3:((Tryz.prog.funcs.toList.drop 258).take 86).any Func.goes=false:=by kernel_rfl
theorem g4:((Tryz.prog.funcs.toList.drop 344).take 86).any Func.goes=false:=by kernel_rfl
theorem g5:((Tryz.prog.funcs.toList.drop 430).take 86).any Func.goes=false:=by kernel_rfl
theorem g6:((Tryz.prog.funcs.toList.drop 516).take 86).any Func.goes=false:=by kernel_rfl
theorem g7:(Tryz.prog.funcs.toList.drop 602).any Func.goes=false:=by kernel_rfl
theorem stay (c:OpenClaim):false=c.goesBy Tryz.prog:=goesBy_none (P:=Tryz.prog) (ny g0 rfl (ny g1 rfl (ny g2 rfl (ny g3 rfl (ny g4 rfl (ny g5 rfl (ny g6 rfl (g7)))))))) c
theorem nz {f:Nat->Bool}{a b n:Nat}(h:(List.range' a k).all f=true)(hb:a+k=b)(hn:k+m=n)(t:(List.range' b m).all f=true):(List.range' a n).all f=true:=by
 subst hb hn;rw[<-List.range'_append_1,List.all_append,h,t];rfl
theorem r0:(List.range' 0 70).all (rowFine Tryz.prog)=true:=by kernel_rfl
theorem r1:(List.range' 70 70).all (rowFine Tryz.prog)=true:=by kernel_rfl
theorem r2:(List.range' 140 70).all (rowFine Tryz.prog)=true:=by kernel_rfl
theorem r3:(List.range' 210 70).all (rowFine Tryz.prog)=true:=by kernel_rfl
theorem r4:(List.range' 280 70).all (rowFine Tryz.prog)=true:=by kernel_rfl
theorem r5:(List.range' 350 70).all (rowFine Tryz.prog)=true:=by kernel_rfl
theorem r6:(List.range' 420 70).all (rowFine Tryz.prog)=true:=by kernel_rfl
theorem r7:(List.range' 490 70).all (rowFine Tryz.prog)=true:=by kernel_rfl
theorem r8:(List.range' 560 55).all (rowFine Tryz.prog)=true:=by kernel_rfl
theorem laid:laidOutB Tryz.prog=true:=by
 have hs:Tryz.prog.types.size=615:=by kernel_rfl
 have h1:(List.range' 0 615).all (rowFine Tryz.prog)=true:=nz (n:=615) r0 (by decide) (by decide) (nz (n:=545) r1 (by decide) (by decide) (nz (n:=475) r2 (by decide) (by decide) (nz (n:=405) r3 (by decide) (by decide) (nz (n:=335) r4 (by decide) (by decide) (nz (n:=265) r5 (by decide) (by decide) (nz (n:=195) r6 (by decide) (by decide) (nz (n:=125) r7 (by decide) (by decide) (r8))))))));have h2:Tryz.prog.globals.all (fun g=>decide (g.type<Tryz.prog.types.size))=true:=by kernel_rfl
 have h3:Tryz.prog.funcs.all (fun f=>f.params.all fun t=>decide (t<Tryz.prog.types.size))=true:=by kernel_rfl
 unfold laidOutB;rw[h2,h3,hs,List.range_eq_range',h1];rfl
end
end Go.Proofs.YtljjlhbbcjjmlaaGreatDoor.Clo
