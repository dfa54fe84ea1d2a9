/- Which functions topRimmedTurn reaches. No condition. -/
import Derived.Test.YtljjlhbbcjjmlaaGreatDoorClo
namespace Go.Proofs.YtljjlhbbcjjmlaaGreatDoor.Clo
open Go Go.Proofs
set_option maxRecDepth 100000
set_option linter.unusedVariables false
noncomputable def K3_0:List Nat:=[3,5,19,46,82,137,189,248,318,379,461,380,381,383,382,462,533,475,546,442,516,534,535,584,463,464,465,477,466,384,385,467,536,468,386,469,476,547,548,589,549,590,348,347,537,585,539,479,538,387,389,388,470,471,472,390,473,540,542,541]
noncomputable def K3_1:List Nat:=[543,545,544,586,588,587,391,392,474,393,478,480,394,481,550,591,551,482,483,552,553,485,484,554,395,396,486,555,487,397,319,398,488,399,400,401,33,69,121,34,70,62,79,122,182,42,15,35,71,37,73,36,72,123,45,81,135,136,80,126]
noncomputable def K3_2:List Nat:=[132,181,127,184,128,185,186,129,187,188,247,130,131,133,134,38,16,39,74,75,402,489,403,490,556,557,592,608,493,78,107,404,491,405,76,124,492,43,17,40,406,494,407,41,77,125,183,408,495,18,44,409,410,496,497,498,320,411,499,412]
noncomputable def K3_3:List Nat:=[413,415,414,500,558,593,560,597,594,595,596,609,559,501,502,506,562,561,416,503,417,504,563,566,601,568,598,610,612,611,599,565,600,567,564,418,419,420,421,505,422,423,507,424,508,509,569,571,572,570,510,511,425,512,573,574,602,575,603,604]
noncomputable def K3_4:List Nat:=[513,576,606,605,426,428,427,249,321,324,60,25,63,8,24,61,26,64,119,10,29,67,68,120,66,323,322,429,9,27,65,28,325,430,326,327,431,433,432,328,434,329,435,514,436,515,577,578,330,437,331,438,332,439,333,440,334,190,250,335]
noncomputable def K3_5:List Nat:=[251,262,252,336,441,339,443,343,340,253,337,254,255,256,338,257,258,259,341,342,345,344,260,346,444,517,445,518,446,447,519,448,261,350,349,263,351,264,352,266,265,268,267,138,191,195,211,192,193,194,269,353,287,363,449,275,230,312,354,271]
noncomputable def K3_6:List Nat:=[270,355,196,272,278,357,356,197,198,273,358,359,199,274,276,200,201,277,360,202,279,361,289,285,362,364,450,520,521,579,522,523,580,581,607,524,525,526,527,365,203,280,281,282,204,283,284,286,205,233,288,232,206,207,208,290,209,210,83,139]
noncomputable def K3_7:List Nat:=[212,140,141,213,291,219,300,366,214,292,368,367,369,371,451,370,373,454,530,452,528,453,529,582,455,531,583,457,456,372,215,293,294,295,216,296,297,298,374,458,532,142,143,217,299,375,459,460,144,218,145,147,146,220,301,148,221,149,222,150]
noncomputable def K3_8:List Nat:=[223,302,303,304,305,306,152,151,224,153,154,225,307,376,308,309,377,227,226,155,156,47,84,157,85,158,228,310,159,229,311,167,87,88,94,86,160,231,161,162,168,90,89,91,164,163,92,165,166,234,93,95,96,97,98,169,170,235,173,99]
noncomputable def K3_9:List Nat:=[171,174,172,100,101,175,102,103,176,236,237,314,313,177,238,20,48,12,30,58,117,22,23,59,118,7,21,49,104,105,178,50,106,51,52,108,179,116,53,109,110,180,239,240,315,241,242,316,317,378,243,244,245,246,111,113,112,54,55,114]
noncomputable def K3_10:List Nat:=[56,115,57,11,6]
noncomputable def C3:List Nat:=K3_0++(K3_1++(K3_2++(K3_3++(K3_4++(K3_5++(K3_6++(K3_7++(K3_8++(K3_9++(K3_10))))))))))
theorem c3:Tryz.prog.closure 3=C3:=by rw[clo_eq all];kernel_rfl
theorem u3:(K3_0.any fun g=>(Tryz.prog.funcs[g]?).any fun fn=>match fn.body with|some c=>c.unfollowed|none=>entryCalls fn)=true:=by kernel_rfl
theorem v3_0:(K3_0.flatMap fun g=>((Tryz.prog.funcs[g]?).bind (·.body)).elim [] Code.globalsNamed)=[]:=by kernel_rfl
theorem v3_1:(K3_1.flatMap fun g=>((Tryz.prog.funcs[g]?).bind (·.body)).elim [] Code.globalsNamed)=[]:=by kernel_rfl
theorem v3_2:(K3_2.flatMap fun g=>((Tryz.prog.funcs[g]?).bind (·.body)).elim [] Code.globalsNamed)=[]:=by kernel_rfl
theorem v3_3:(K3_3.flatMap fun g=>((Tryz.prog.funcs[g]?).bind (·.body)).elim [] Code.globalsNamed)=[]:=by kernel_rfl
theorem v3_4:(K3_4.flatMap fun g=>((Tryz.prog.funcs[g]?).bind (·.body)).elim [] Code.globalsNamed)=[]:=by kernel_rfl
theorem v3_5:(K3_5.flatMap fun g=>((Tryz.prog.funcs[g]?).bind (·.body)).elim [] Code.globalsNamed)=[]:=by kernel_rfl
theorem v3_6:(K3_6.flatMap fun g=>((Tryz.prog.funcs[g]?).bind (·.body)).elim [] Code.globalsNamed)=[]:=by kernel_rfl
theorem v3_7:(K3_7.flatMap fun g=>((Tryz.prog.funcs[g]?).bind (·.body)).elim [] Code.globalsNamed)=[1,2,0,0,0]:=by kernel_rfl
theorem v3_8:(K3_8.flatMap fun g=>((Tryz.prog.funcs[g]?).bind (·.body)).elim [] Code.globalsNamed)=[]:=by kernel_rfl
theorem v3_9:(K3_9.flatMap fun g=>((Tryz.prog.funcs[g]?).bind (·.body)).elim [] Code.globalsNamed)=[]:=by kernel_rfl
theorem v3_10:(K3_10.flatMap fun g=>((Tryz.prog.funcs[g]?).bind (·.body)).elim [] Code.globalsNamed)=[]:=by kernel_rfl
theorem unf3:Tryz.prog.unfollowed 3=true:=by
 unfold Program.unfollowed;rw[c3];unfold C3;rw[List.any_append];exact(Bool.or_eq_true _ _).mpr (.inl u3)
theorem rec3:Tryz.prog.recurses 3=true:=by
 unfold Program.recurses;rw[unf3,Bool.true_or]
theorem glob3:(C3.flatMap fun g=>((Tryz.prog.funcs[g]?).bind (·.body)).elim [] Code.globalsNamed)=[1,2,0,0,0]:=by
 unfold C3;simp only[List.flatMap_append,v3_0,v3_1,v3_2,v3_3,v3_4,v3_5,v3_6,v3_7,v3_8,v3_9,v3_10];rfl
theorem j9_3:(Rows.topRimmedTurnRow.inPlace==Tryz.prog.inPlace 3)=true:=by unfold Program.inPlace;rw[c3];kernel_rfl
theorem j10_3:(Rows.topRimmedTurnRow.unfollowed==Tryz.prog.unfollowed 3)=true:=by rw[unf3];kernel_rfl
theorem j11_3:(Rows.topRimmedTurnRow.recurses==Tryz.prog.recurses 3)=true:=by rw[rec3];kernel_rfl
theorem j12_3:(Rows.topRimmedTurnRow.named==Tryz.prog.varsNamed 3)=true:=by unfold Program.varsNamed;rw[c3,glob3];kernel_rfl
end Go.Proofs.YtljjlhbbcjjmlaaGreatDoor.Clo
