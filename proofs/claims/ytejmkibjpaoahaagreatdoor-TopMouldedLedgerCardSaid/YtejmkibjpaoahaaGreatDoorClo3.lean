/- Which functions topMouldedLedger reaches. No condition. -/
import Derived.Test.YtejmkibjpaoahaaGreatDoorClo
namespace Go.Proofs.YtejmkibjpaoahaaGreatDoor.Clo
open Go Go.Proofs
set_option maxRecDepth 100000
set_option linter.unusedVariables false
noncomputable def K3_0:List Nat:=[3,6,7,30,78,134,188,270,334,391,443,500,566,618,693,619,620,622,621,694,758,707,771,302,298,759,760,808,695,696,697,709,698,623,624,699,761,700,625,701,708,772,773,813,774,814,596,595,762,809,764,711,763,626,628,627,702,703,704,629]
noncomputable def K3_1:List Nat:=[705,765,767,766,768,770,769,810,812,811,630,631,706,632,710,712,633,713,775,815,776,714,715,777,778,717,716,779,634,635,718,780,719,636,567,637,720,638,639,14,33,93,159,34,95,94,161,160,225,49,9,35,96,37,99,36,97,162,98,164]
noncomputable def K3_2:List Nat:=[234,235,163,226,224,308,227,309,228,310,311,229,312,313,381,230,231,232,233,38,640,721,781,782,641,722,642,723,783,784,816,832,728,421,364,643,724,644,725,785,727,726,645,729,646,730,647,731,786,817,833,648,732,649,733,650,651,734,735,568]
noncomputable def K3_3:List Nat:=[652,736,653,654,656,655,737,787,818,789,822,819,820,821,834,788,738,739,743,791,790,657,740,658,741,792,795,826,797,823,835,837,836,824,794,825,796,793,659,660,661,662,742,663,664,744,665,745,746,798,800,801,799,747,748,666,749,802,803,827]
noncomputable def K3_4:List Nat:=[804,828,829,750,805,831,830,667,669,668,501,569,573,130,75,132,26,74,131,76,133,187,570,670,752,613,690,751,571,27,77,572,671,753,156,574,672,575,576,673,675,674,577,676,578,677,754,678,755,806,807,579,679,580,680,581,681,582,682,583]
noncomputable def K3_5:List Nat:=[444,502,584,503,514,504,585,683,588,684,591,589,505,586,506,507,508,587,509,510,511,590,380,593,592,512,594,685,756,173,248,686,687,757,688,513,598,597,515,599,516,600,518,517,520,519,392,445,449,465,446,447,448,521,601,539,611,689,527,483]
noncomputable def K3_6:List Nat:=[560,602,523,522,603,450,524,530,605,604,451,452,525,606,607,453,526,528,454,455,529,608,456,531,609,541,537,610,111,169,238,239,314,240,241,315,316,382,242,243,244,245,612,457,532,533,534,458,535,536,538,459,486,540,485,460,461,462,542,463]
noncomputable def K3_7:List Nat:=[464,335,393,466,394,395,467,543,472,548,155,468,183,259,258,260,262,328,261,264,330,388,255,323,329,387,441,324,385,442,326,325,263,469,544,545,546,180,254,256,181,257,327,386,396,397,470,547,614,691,692,398,471,399,401,400,473,549,402,474]
noncomputable def K3_8:List Nat:=[403,475,404,476,550,551,552,553,554,406,405,477,407,408,478,555,615,556,557,616,480,479,409,410,271,336,411,337,412,481,558,413,482,559,422,339,340,346,338,414,484,415,416,423,342,341,343,418,417,344,419,420,487,345,347,348,349,350,424,425]
noncomputable def K3_9:List Nat:=[488,428,351,426,429,427,352,353,430,354,355,431,489,490,562,561,432,491,189,272,273,356,363,434,359,357,373,437,274,358,275,360,361,433,276,362,277,278,365,435,374,279,366,367,436,492,493,563,494,495,564,565,617,496,497,498,499,368,370,369]
noncomputable def K3_10:List Nat:=[280,281,371,282,372,283,284,135,191,195,192,190,285,194,290,287,375,291,292,376,293,286,288,289,193,196,294,377,438,197,198,295,199,200,296,201,202,297,378,439,440,203,299,204,205,300,206,301,379,207,208,209,210,211,79,136,212,140,137,153]
noncomputable def K3_11:List Nat:=[138,139,170,246,172,214,303,247,317,213,117,141,118,174,119,143,142,59,114,171,115,116,60,20,144,145,215,218,305,146,217,304,219,216,147,221,220,306,149,148,222,150,223,307,151,21,19,57,58,62,61,63,120,152,154,31,80,11,15,46]
noncomputable def K3_12:List Nat:=[39,100,40,47,107,101,102,41,103,104,50,56,13,48,108,10,42,44,43,105,106,165,236,81,82,85,84,83,52,17,51,109,110,166,237,167,168,112,86,18,53,54,113,55,16,87,127,72,88,70,126,182,22,65,122,176,249,250,318,319]
noncomputable def K3_13:List Nat:=[251,252,320,321,383,384,123,177,121,175,253,322,64,67,66,23,68,124,178,69,125,179,71,128,184,265,331,389,390,185,266,332,267,268,129,186,333,269,89,24,90,91,92,157,12,45,158,8,32]
noncomputable def C3:List Nat:=K3_0++(K3_1++(K3_2++(K3_3++(K3_4++(K3_5++(K3_6++(K3_7++(K3_8++(K3_9++(K3_10++(K3_11++(K3_12++(K3_13)))))))))))))
theorem c3:Tryz.prog.closure 3=C3:=by rw[clo_eq all];kernel_rfl
theorem u3:(K3_0.any fun g=>(Tryz.prog.funcs[g]?).any fun fn=>match fn.body with|some c=>c.unfollowed|none=>entryCalls fn)=true:=by kernel_rfl
theorem v3_0:(K3_0.flatMap fun g=>((Tryz.prog.funcs[g]?).bind (·.body)).elim [] Code.globalsNamed)=[]:=by kernel_rfl
theorem v3_1:(K3_1.flatMap fun g=>((Tryz.prog.funcs[g]?).bind (·.body)).elim [] Code.globalsNamed)=[]:=by kernel_rfl
theorem v3_2:(K3_2.flatMap fun g=>((Tryz.prog.funcs[g]?).bind (·.body)).elim [] Code.globalsNamed)=[]:=by kernel_rfl
theorem v3_3:(K3_3.flatMap fun g=>((Tryz.prog.funcs[g]?).bind (·.body)).elim [] Code.globalsNamed)=[]:=by kernel_rfl
theorem v3_4:(K3_4.flatMap fun g=>((Tryz.prog.funcs[g]?).bind (·.body)).elim [] Code.globalsNamed)=[]:=by kernel_rfl
theorem v3_5:(K3_5.flatMap fun g=>((Tryz.prog.funcs[g]?).bind (·.body)).elim [] Code.globalsNamed)=[]:=by kernel_rfl
theorem v3_6:(K3_6.flatMap fun g=>((Tryz.prog.funcs[g]?).bind (·.body)).elim [] Code.globalsNamed)=[]:=by kernel_rfl
theorem v3_7:(K3_7.flatMap fun g=>((Tryz.prog.funcs[g]?).bind (·.body)).elim [] Code.globalsNamed)=[4,5,0,0,0]:=by kernel_rfl
theorem v3_8:(K3_8.flatMap fun g=>((Tryz.prog.funcs[g]?).bind (·.body)).elim [] Code.globalsNamed)=[]:=by kernel_rfl
theorem v3_9:(K3_9.flatMap fun g=>((Tryz.prog.funcs[g]?).bind (·.body)).elim [] Code.globalsNamed)=[]:=by kernel_rfl
theorem v3_10:(K3_10.flatMap fun g=>((Tryz.prog.funcs[g]?).bind (·.body)).elim [] Code.globalsNamed)=[]:=by kernel_rfl
theorem v3_11:(K3_11.flatMap fun g=>((Tryz.prog.funcs[g]?).bind (·.body)).elim [] Code.globalsNamed)=[]:=by kernel_rfl
theorem v3_12:(K3_12.flatMap fun g=>((Tryz.prog.funcs[g]?).bind (·.body)).elim [] Code.globalsNamed)=[1]:=by kernel_rfl
theorem v3_13:(K3_13.flatMap fun g=>((Tryz.prog.funcs[g]?).bind (·.body)).elim [] Code.globalsNamed)=[6,7,2,3]:=by kernel_rfl
theorem unf3:Tryz.prog.unfollowed 3=true:=by
 unfold Program.unfollowed;rw[c3];unfold C3;rw[List.any_append];exact(Bool.or_eq_true _ _).mpr (.inl u3)
theorem rec3:Tryz.prog.recurses 3=true:=by
 unfold Program.recurses;rw[unf3,Bool.true_or]
theorem glob3:(C3.flatMap fun g=>((Tryz.prog.funcs[g]?).bind (·.body)).elim [] Code.globalsNamed)=[4,5,0,0,0,1,6,7,2,3]:=by
 unfold C3;simp only[List.flatMap_append,v3_0,v3_1,v3_2,v3_3,v3_4,v3_5,v3_6,v3_7,v3_8,v3_9,v3_10,v3_11,v3_12,v3_13];rfl
theorem j9_3:(Rows.topMouldedLedgerRow.inPlace==Tryz.prog.inPlace 3)=true:=by unfold Program.inPlace;rw[c3];kernel_rfl
theorem j10_3:(Rows.topMouldedLedgerRow.unfollowed==Tryz.prog.unfollowed 3)=true:=by rw[unf3];kernel_rfl
theorem j11_3:(Rows.topMouldedLedgerRow.recurses==Tryz.prog.recurses 3)=true:=by rw[rec3];kernel_rfl
theorem j12_3:(Rows.topMouldedLedgerRow.named==Tryz.prog.varsNamed 3)=true:=by unfold Program.varsNamed;rw[c3,glob3];kernel_rfl
end Go.Proofs.YtejmkibjpaoahaaGreatDoor.Clo
