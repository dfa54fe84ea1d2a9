/- What functions lead to, and which ones are reached. No condition. -/
import Derived.Test.YtejmkibjpaoahaaGreatDoorRows
import Derived.JoinedOf
import GoSem.ClaimGoes
import Derived.KernelRfl
namespace Go.Proofs.YtejmkibjpaoahaaGreatDoor.Clo
open Go Go.Proofs
section
variable {P:Program}{k m:Nat}
set_option maxRecDepth 100000
set_option linter.unusedVariables false
noncomputable def hasR (n:Nat):List Nat->Bool:=List.rec (motive:=fun _=>Bool) false (fun a _ ih=>Bool.rec (motive:=fun _=>Bool) ih true (Nat.beq n a))
theorem hasR_eq (n:Nat):∀l:List Nat,hasR n l=l.contains n
 |[]=>rfl
 |a::l=>by
  have ih:=hasR_eq n l;have h1:hasR n (a::l)=Bool.rec (motive:=fun _=>Bool) (hasR n l) true (Nat.beq n a):=rfl;rw[h1,List.contains_cons,ih];have h2:(n==a)=Nat.beq n a:=by rw[Bool.eq_iff_iff,beq_iff_eq,Nat.beq_eq]
  rw[h2];cases Nat.beq n a<;>rfl
noncomputable def cl (T:List (List Nat)):Nat->List Nat->List Nat->List Nat
 |0,_,seen=>seen.reverse
 |_+1,[],seen=>seen.reverse
 |k+1,f::todo,seen=>Bool.rec (motive:=fun _=>List Nat) (cl T k ((T[f]?).getD []++todo) (f::seen)) (cl T k todo seen) (hasR f seen)
theorem nx {α β:Type}{f:α->β}{l:List α}{i:Nat}{X Y:List β}(h:((l.drop k).take i).map f=X)(hm:k+i=m)(t:(l.drop m).map f=Y):(l.drop k).map f=X++Y:=by
 subst hm;rw[<-h,<-t,<-List.drop_drop,<-List.map_append,List.take_append_drop]
theorem cl_eq {P:Program}{T:List (List Nat)}(hT:P.funcs.toList.map P.leadsTo=T):∀(k:Nat) (todo seen:List Nat),P.closureVia k todo seen=cl T k todo seen
 |0,todo,seen=>by cases todo<;>rfl
 |k+1,[],seen=>rfl
 |k+1,f::todo,seen=>by
  have hg:(P.funcs[f]?).elim [] P.leadsTo=(T[f]?).getD []:=by
   rw[<-hT,List.getElem?_map,Array.getElem?_toList];cases P.funcs[f]? <;>rfl
  unfold Program.closureVia cl;rw[hasR_eq,hg];cases hs:seen.contains f with
  |true=>rw[if_pos rfl];exact cl_eq hT k todo seen
  |false=>rw[if_neg (by decide)];exact cl_eq hT k _ _
theorem clo_eq {T:List (List Nat)}(hT:P.funcs.toList.map P.leadsTo=T)(f:Nat):P.closure f=cl T (1+(T.map fun l=>l.length+1).sum) [f] []:=by
 unfold Program.closure;rw[cl_eq hT,<-hT,List.map_map];rfl
noncomputable def A0:List (List Nat):=[[],[],[1],[6,7,8,9,11,10,12,13,14,15,15,16,17,18,7],[19,7,20,7,21,7,11,10,12,22,23,15,15,24,7],[25,7,26,27,25,28,28,17,17,15,29,7],[],[30,31],[32],[33,34,35,37,36,38],[39,40,42,41,44,43],[],[45],[46,47,47,48,47],[33,49],[46,50],[46,50,51],[46,50,52,51],[46,53,54,54,55,50,56],[57,57,58],[59,60,60],[19,19,62,61,63],[39,65,64,65,64,66,65,64,67],[68,69,70,71,72,39,66],[],[73],[74,75,76],[74,77],[11],[46,51],[78,79],[80,15,15,13,13,11,10,11,10,11,10,81,81,81,82,82,85,84,83,85,85,84,83,17,86,18,86,18,16,87,88,88,88,22,23,89,24,85,90,11,80,91,11,80,91,91,92],[],[93],[95,94],[96,96],[97,98],[99],[],[100,101,47,47,102,103,102,104],[47,47],[],[],[105,106],[],[],[39,47],[107,94],[108],[],[56],[50,52,109,110,109,111,112],[],[47],[113],[],[],[58,58],[],[114,115],[117,116,118,119,119,116],[],[],[61,120,61],[121],[122,123,72],[],[],[124],[125],[126,127,47],[69,128,129],[],[],[130,131],[132,94],[133],[],[134,135],[136,137,138,140,139,140,139,141,141,141,143,142,143,142,143,142,20,20,144,145,145,145,145,146,146,147,147,149,148,149,148,150,149,151,149,151,140,21,140,140,140,153,152,149,154,149,154],[11,11,11],[39,47,10],[46,44],[46,50,155,133,37,36,52,156],[],[]]
theorem a0:((Tryz.prog.funcs.toList.drop 0).take 86).map Tryz.prog.leadsTo=A0:=by kernel_rfl
noncomputable def A1:List (List Nat):=[[],[127,72],[70,72],[],[],[],[157,157,158],[159,34,34,160],[161],[],[],[162],[164,163],[],[40],[],[41],[],[],[],[165],[],[],[],[110,166,167,168],[164,169],[],[],[170,171,173],[],[],[],[174],[],[],[175],[176],[177,64,64,64,67],[178],[179,180,181],[182],[47,183],[184,185],[186],[75,75,75],[],[],[187],[188,189],[191,192,190,191,192,190,193,192,190,195,194,195,194,191,196,191,197,199,198,193,198,193,200,191,200,191,201,191,201,191,202,191,203,191,203,193,204,205,205,206,207,207,208,192,209,192,209,192,209,195,195,195,210,191,211],[212,212],[140,140,140,153],[140,140,140,153],[170,172,213],[],[170,214,118,119],[59,214,116,60],[],[59,60],[59,214,214,215],[59,215,218,217,219,216],[59,221,220],[59,222,221],[],[59,223,220],[59,222,223],[],[],[],[224],[],[12,12],[],[34,34],[225],[],[],[226,227,228,229,230,231,224,232,233,163,163],[234,235],[236,236,236],[237],[],[],[238,239,240,241,242,243,244,245,169,169],[246,214,247],[172]]
theorem a1:((Tryz.prog.funcs.toList.drop 86).take 86).map Tryz.prog.leadsTo=A1:=by kernel_rfl
noncomputable def A2:List (List Nat):=[[214],[248],[],[],[249,250,251,252],[121,253],[],[254,255],[254,256,181],[257],[],[259,258,260,262,261,264,263],[265],[266,267,268,269],[176],[],[270,271],[272,272,273,273,272,274,272,274,275,272,275,276,277,277,278,272,278,278,279,272,279,280,280,280,281,282,282,283,283,284,284,272,284,284],[285,286,287,288,289],[195],[],[195],[290,291,287,292,293],[],[285,294],[198,293],[285,294,295],[195],[296,294],[202,289],[296,297],[285,294,298,299,293],[203],[300],[300,301],[208],[300,293],[],[211],[],[140,140],[117],[303,302],[218,213],[],[304],[305],[],[306],[60],[],[307],[308,308],[],[224],[309,309],[310,311],[312,312,312,313],[],[224,224,224],[224,224],[224,224,224,224],[],[],[],[],[],[314,314],[310,311],[315,315,315,316],[],[],[],[],[172,172],[317],[],[],[235,318,319],[],[320,321],[322],[],[323],[],[324,325,324,326,325,327]]
theorem a2:((Tryz.prog.funcs.toList.drop 172).take 86).map Tryz.prog.leadsTo=A2:=by kernel_rfl
noncomputable def A3:List (List Nat):=[[],[],[],[328],[328],[255,329],[330,329],[331],[332],[332],[332,129,333],[332,129,333],[334,335],[336,337,339,340,338,339,340,338,342,341,339,341,342,343,339,343,342,340,344,339,340,344,339,345,340,340,340,340,346,345,339,347,342,347,339,340,348,339,340,348,349,350,342,340,350,342,340,351,342,340,351,340,340,340,340,346,352,340,353,340,353,340,346,352,340,353,340,353,354,355],[],[356,357],[358,359,357],[360,361],[356,362],[273,363,364],[360,361,365],[360,366,367,368,370,369],[360,363,363,366],[360,37,36,364,371],[356,372,373,97,371],[356,363,374,362],[],[194,287],[],[375,302],[],[],[287],[],[376],[],[293,377,287],[],[285,287],[378,377,378],[],[],[287,287],[379],[298],[],[],[],[],[115,60],[],[224,224],[164],[],[313],[381,381,381],[],[316],[382,382,382],[],[],[],[],[383,384],[],[],[385],[],[],[386],[],[387],[388,255],[389,389,389,389,389,389,390],[],[],[391,392],[393,394,395,395,395,395,396,396,397,398,398,399,399,401,400,401,400,402,402,403,403,404,406,405,406,405,406,407,406,407,406,407,408,401,409,401,409,410,406],[411],[412,413],[414,415,416],[340,340,340,346],[],[343],[340,340,346],[414,416,418,417]]
theorem a3:((Tryz.prog.funcs.toList.drop 258).take 86).map Tryz.prog.leadsTo=A3:=by kernel_rfl
noncomputable def A4:List (List Nat):=[[419,420],[347],[],[414,421,422,423],[419],[337,164],[424,425],[424,425,426,428,429,427],[353],[430],[],[431,432,431],[363,359],[373],[356,363],[],[356,363,37,36,38],[433,357],[],[434,94],[],[435,374],[361,435],[164,436],[],[],[],[],[],[437],[],[],[],[438],[377,287,378,439,440],[380,301],[],[224],[],[],[],[],[],[441,442,441,326,325],[],[],[389,389,389,389,389,389],[443,444],[445,446,447,449,448,449,448,449,448,449,450,449,450,449,450,451,451,452,453,449,454,449,454,449,455,456,449,449,457,449,457,449,458,449,449,458,459,459,460,461,449,462,449,462,449,462,449,449,463,449,462,449,449,465,464,449,449,465,464],[466],[466],[467,468,469,180],[397,180],[467,470],[467,471],[467,471],[467,472,473,472],[],[395,395,474],[467,471,475],[467,471,476],[477,468,469],[],[477,470],[478,478,480,479],[],[],[],[481,481],[482,422],[412,484,483,413],[481],[422,423],[],[416,156],[414,481],[416,486,487,485],[364],[],[],[419,416,156],[488,428,488,164,488,164,425,425],[425,425],[],[482,422,422,423],[]]
theorem a4:((Tryz.prog.funcs.toList.drop 344).take 86).map Tryz.prog.leadsTo=A4:=by kernel_rfl
noncomputable def A5:List (List Nat):=[[],[489,430,490],[491],[373],[],[374],[492,493,494,495,496,497,498,499,436,436],[],[286],[],[],[324],[],[500,501],[502,503,504,504,504,505,506,506,506,506,507,507,508,509,509,510,510,511,512,514,513,514,513,514,513,514,515,514,516,518,517,518,517,520,519,520,519,514],[449,449,449,449,465],[449,449,449,465],[449,465],[521,523,522],[],[448,521,523,524],[452],[521,525,523,522],[521,526],[521,527,528],[448,521,523,529,522,530],[521,531],[532,531,533,534],[532,535,531,538],[521,539,531,486,540,485],[521,541],[521,531],[542],[462],[463],[],[],[543,472],[183],[544,545,546],[472,547],[547],[548,94],[549],[],[547,469],[550,551,552,474,553,554],[467],[555,555,556,556,557],[],[],[558,94],[559],[560],[415],[560],[],[156],[],[],[562,561,490,490],[],[],[563,563],[310,311],[564,564,564,565],[],[],[],[],[566,567,568],[569,130,569,130,569,26,569,26,569,570,571,27,569,573,572,569,571,572,569,574,569,573,575,569,573,575,576,577,577,578,578,579,573,580,573,580,569,573,581,569,573,581,573,582,582,573,582,573,573,573,573,583,573,582],[584],[514,514,514],[585],[585,586],[585],[585],[585,587,587],[585,588,588,589,589,589],[585,589,589],[585,590,593,592,586],[594,595,596],[594,598,597],[],[594,598,597,599]]
theorem a5:((Tryz.prog.funcs.toList.drop 430).take 86).map Tryz.prog.leadsTo=A5:=by kernel_rfl
noncomputable def A6:List (List Nat):=[[594,598,600,597,599],[],[],[],[],[601,602,483],[603,94],[],[522,530,605,604],[606],[528,526],[539],[],[608],[],[523,609,94,530,541],[601,521],[],[156],[536,483],[523,537],[610,94],[],[611,94],[421],[523,530,537,530,111,612],[],[472,472,472,472,155,155],[],[],[],[614,546,545],[],[544],[],[473,550],[473],[],[],[615,615],[],[616],[],[482,133],[],[432],[],[],[565],[617,617,617],[618,619,620,622,621,622,621,622,621,622,623,622,624,622,624,622,624,622,624,625,625,625,626,628,627,628,627,629,628,630,628,630,631,631,632,632,633,634,635,636,634,634,634,634,634],[637,638,639,14,639,9,639,9,639,9,640,641,641,642,642,643,643,643,644,639,645,639,645,639,646,639,639,646,647,639,648,648,649,639,650,639,650,650,639,650,639,650,639,650,651,639,650,639,650],[652,653,654,656,655,656,655,656,655,656,657,658,658,659,660,656,656,661,656,656,661,662,662,656,663,656,663,664,665,666,667,667,667,669,668,669,668,669,668,669,668,669,668,669,668],[573],[74,670,76],[573],[74,74,671,156],[],[130,672],[74,75,672,156],[673,675,674],[673,676,674],[576,677,678],[679,677],[679,674,74,680],[74,74,681,671],[682],[582],[],[683,588,588,591],[],[589,589],[684,302],[],[380,591,586],[589,589,589,589,589],[],[],[685,588,173,686,687,688,591,586],[],[],[],[],[687],[],[539,689,483]]
theorem a6:((Tryz.prog.funcs.toList.drop 516).take 86).map Tryz.prog.leadsTo=A6:=by kernel_rfl
noncomputable def A7:List (List Nat):=[[527],[],[],[],[607],[607],[],[],[],[],[613],[690],[544,546,614,545,614,691,692],[],[],[],[693,693,693,693],[693,693],[],[694,695,696,697],[],[694,695,698,698],[699,695,700],[701,697],[701],[699,702,703,704,698],[],[701,697,705,704,698],[699,702,703,704],[699,706],[699,707,708,709,698,710,712,711,712],[713,713,714,715,717,716],[],[713,713,718,718,719],[713,713,714,715,717],[720],[720],[],[33,721],[33,721,722],[723],[723,724],[33,725,724,727,726,421,725],[33,729,35],[93,730,729,729,160],[33,731,421,98],[33,729,49,732,94,421],[33,731,49,733,726,98],[],[6,6,734,734,735,735],[736],[736],[736],[737,738,739],[],[737,738,739,740],[737,741,739,740],[737,741],[737,741],[655,657],[737,742,742],[657,737,743,595],[737,744,744],[737,745,745,746,746,747,726,748,726],[749,750],[],[],[],[76,752,751],[753],[],[75,75],[],[675],[],[754],[755],[75,75,674],[671],[156],[],[588,588,588],[],[756,588,588,173],[],[757]]
theorem a7:((Tryz.prog.funcs.toList.drop 602).take 86).map Tryz.prog.leadsTo=A7:=by kernel_rfl
noncomputable def A8:List (List Nat):=[[],[527],[308,308],[],[],[],[758,759,707,760],[707,707],[],[709,698],[],[694,761,696],[],[699,708,762,764,763],[707,707,707],[],[],[765,767,766,767,767,767,768,770,769],[765,767,704,768,770,769],[771,302],[700,772],[],[711],[],[],[775,775,776],[],[777,778],[779],[],[780],[777,778,780,780],[],[49,781,782,782],[35,722,96],[9,34,34,33,783,784],[],[785],[161],[728],[],[34],[421,421],[725,786,421,421],[],[],[],[],[],[787,788],[789,789],[743,595,791,790],[],[792,795,794,796,793],[595],[],[792,797],[797],[798,800,799],[],[],[802,802,803,803,804],[802,802,803,803,805],[],[613],[76],[724],[806,807],[588,588],[],[707],[707],[808],[707],[809],[],[697,697,711],[],[],[],[],[810],[703],[],[773,774],[813]]
theorem a8:((Tryz.prog.funcs.toList.drop 688).take 86).map Tryz.prog.leadsTo=A8:=by kernel_rfl
noncomputable def A9:List (List Nat):=[[814,814,814,814,814,814,596,595,596],[815,815],[],[],[],[],[],[],[],[],[816,421,98],[],[817],[818,819,820,789,821,821,821],[],[822,302],[],[],[795,823,739,824,739],[],[825],[826],[],[],[],[],[801,94],[],[],[827],[828,827,829],[831,804,830],[],[],[],[],[812,811],[],[],[],[],[],[832],[833],[789],[],[789],[834],[],[797,797,835,596,595,596],[],[],[797,797],[],[],[],[],[],[728],[],[],[837,836,835],[],[],[],[],[],[],[],[],[],[],[],[],[],[],[],[],[],[],[],[],[],[],[],[]]
theorem a9:((Tryz.prog.funcs.toList.drop 774).take 86).map Tryz.prog.leadsTo=A9:=by kernel_rfl
noncomputable def A10:List (List Nat):=[[],[],[],[],[],[],[],[333,333]]
theorem a10:(Tryz.prog.funcs.toList.drop 860).map Tryz.prog.leadsTo=A10:=by kernel_rfl
noncomputable def LL:List (List Nat):=A0++(A1++(A2++(A3++(A4++(A5++(A6++(A7++(A8++(A9++(A10))))))))))
theorem all:Tryz.prog.funcs.toList.map Tryz.prog.leadsTo=LL:=nx a0 rfl (nx a1 rfl (nx a2 rfl (nx a3 rfl (nx a4 rfl (nx a5 rfl (nx a6 rfl (nx a7 rfl (nx a8 rfl (nx a9 rfl (a10))))))))))
theorem ny {α:Type}{f:α->Bool}{l:List α}{i:Nat}(h:((l.drop k).take i).any f=false)(hm:k+i=m)(t:(l.drop m).any f=false):(l.drop k).any f=false:=by
 subst hm;rw[<-List.take_append_drop i (l.drop k),List.any_append,h,List.drop_drop,t];rfl
theorem goes_none (hn:P.funcs.toList.any Func.goes=false)(f:FuncId):P.goes f=false:=by
 have h1:∀g:Nat,(P.funcs[g]?).any Func.goes=false:=fun g=>by
  cases hg:P.funcs[g]? with
  |none=>rfl
  |some fn=>
   have hm:fn∈P.funcs.toList:=Array.mem_toList_iff.2 (Array.mem_of_getElem? hg);have:=List.any_eq_false.1 hn fn hm;simpa using this
 have h2:P.funcs.any Func.goes=false:=by rw[<-Array.any_toList];exact hn
 unfold Program.goes;rw[h2,Bool.and_false,Bool.or_false,List.any_eq_false];intro g _;rw[h1 g];exact Bool.false_ne_true
theorem goesBy_none (hn:P.funcs.toList.any Func.goes=false)(c:OpenClaim):false=c.goesBy P:=by
 have h1:∀o:Option FuncId,o.any P.goes=false:=fun o=>by cases o<;>simp[goes_none hn]
 have h2:P.inits.toList.any P.goes=false:=List.any_eq_false.2 fun x _=>by simp[goes_none hn]
 unfold OpenClaim.goesBy Program.goesAt Program.goesFrom;rw[h1,h2];cases c.start<;>rfl
theorem g0:((Tryz.prog.funcs.toList.drop 0).take 86).any Func.goes=false:=by kernel_rfl
theorem g1:((Tryz.prog.funcs.toList.drop 86).take 86).any Func.goes=false:=by kernel_rfl
theorem g2:((Tryz.prog.funcs.toList.drop 172).take 86).any Func.goes=false:=by kernel_rfl
theorem g3:((Tryz.prog.funcs.toList.drop 258).take 86).any Func.goes=false:=by kernel_rfl
theorem g4:((Tryz.prog.funcs.toList.drop 344).take 86).any Func.goes=false:=by kernel_rfl
theorem g5:((Tryz.prog.funcs.toList.drop 430).take 86).any Func.goes=false:=by kernel_rfl
theorem g6:((Tryz.prog.funcs.toList.drop 516).take 86).any Func.goes=false:=by kernel_rfl
theorem g7:((Tryz.prog.funcs.toList.drop 602).take 86).any Func.goes=false:=by kernel_rfl
theorem g8:((Tryz.prog.funcs.toList.drop 688).take 86).any Func.goes=false:=by kernel_rfl
theorem g9:((Tryz.prog.funcs.toList.drop 774).take 86).any Func.goes=false:=by kernel_rfl
theorem g10:(Tryz.prog.funcs.toList.drop 860).any Func.goes=false:=by kernel_rfl
theorem stay (c:OpenClaim):false=c.goesBy Tryz.prog:=goesBy_none (P:=Tryz.prog) (ny g0 rfl (ny g1 rfl (ny g2 rfl (ny g3 rfl (ny g4 rfl (ny g5 rfl (ny g6 rfl (ny g7 rfl (ny g8 rfl (ny g9 rfl (g10))))))))))) c
theorem nz {f:Nat->Bool}{a b n:Nat}(h:(List.range' a k).all f=true)(hb:a+k=b)(hn:k+m=n)(t:(List.range' b m).all f=true):(List.range' a n).all f=true:=by
 subst hb hn;rw[<-List.range'_append_1,List.all_append,h,t];rfl
theorem r0:(List.range' 0 70).all (rowFine Tryz.prog)=true:=by kernel_rfl
theorem r1:(List.range' 70 70).all (rowFine Tryz.prog)=true:=by kernel_rfl
theorem r2:(List.range' 140 70).all (rowFine Tryz.prog)=true:=by kernel_rfl
theorem r3:(List.range' 210 70).all (rowFine Tryz.prog)=true:=by kernel_rfl
theorem r4:(List.range' 280 70).all (rowFine Tryz.prog)=true:=by kernel_rfl
theorem r5:(List.range' 350 70).all (rowFine Tryz.prog)=true:=by kernel_rfl
theorem r6:(List.range' 420 70).all (rowFine Tryz.prog)=true:=by kernel_rfl
theorem r7:(List.range' 490 70).all (rowFine Tryz.prog)=true:=by kernel_rfl
theorem r8:(List.range' 560 70).all (rowFine Tryz.prog)=true:=by kernel_rfl
theorem r9:(List.range' 630 70).all (rowFine Tryz.prog)=true:=by kernel_rfl
theorem r10:(List.range' 700 70).all (rowFine Tryz.prog)=true:=by kernel_rfl
theorem r11:(List.range' 770 70).all (rowFine Tryz.prog)=true:=by kernel_rfl
theorem r12:(List.range' 840 1).all (rowFine Tryz.prog)=true:=by kernel_rfl
theorem laid:laidOutB Tryz.prog=true:=by
 have hs:Tryz.prog.types.size=841:=by kernel_rfl
 have h1:(List.range' 0 841).all (rowFine Tryz.prog)=true:=nz (n:=841) r0 (by decide) (by decide) (nz (n:=771) r1 (by decide) (by decide) (nz (n:=701) r2 (by decide) (by decide) (nz (n:=631) r3 (by decide) (by decide) (nz (n:=561) r4 (by decide) (by decide) (nz (n:=491) r5 (by decide) (by decide) (nz (n:=421) r6 (by decide) (by decide) (nz (n:=351) r7 (by decide) (by decide) (nz (n:=281) r8 (by decide) (by decide) (nz (n:=211) r9 (by decide) (by decide) (nz (n:=141) r10 (by decide) (by decide) (nz (n:=71) r11 (by decide) (by decide) (r12))))))))))));have h2:Tryz.prog.globals.all (fun g=>decide (g.type<Tryz.prog.types.size))=true:=by kernel_rfl
 have h3:Tryz.prog.funcs.all (fun f=>f.params.all fun t=>decide (t<Tryz.prog.types.size))=true:=by kernel_rfl
 unfold laidOutB;rw[h2,h3,hs,List.range_eq_range',h1];rfl
end
end Go.Proofs.YtejmkibjpaoahaaGreatDoor.Clo
