/- What functions lead to, and which ones are reached. No condition. -/
import Derived.Test.YtmpfljfffljoeaaGreatDoorRows
import Derived.JoinedOf
import GoSem.ClaimGoes
import Derived.KernelRfl
namespace Go.Proofs.YtmpfljfffljoeaaGreatDoor.Clo
open Go Go.Proofs
set_option maxRecDepth 100000
set_option linter.unusedVariables false
noncomputable def hasR (n : Nat) : List Nat → Bool := List.rec (motive := fun _ => Bool) false (fun a _ ih => Bool.rec (motive := fun _ => Bool) ih true (Nat.beq n a))
theorem hasR_eq (n : Nat) : ∀ l : List Nat, hasR n l = l.contains n
  | [] => rfl
  | a :: l => by
    have ih := hasR_eq n l
    have h1 : hasR n (a :: l) = Bool.rec (motive := fun _ => Bool) (hasR n l) true (Nat.beq n a) := rfl
    rw [h1, List.contains_cons, ih]
    have h2 : (n == a) = Nat.beq n a := by rw [Bool.eq_iff_iff, beq_iff_eq, Nat.beq_eq]
    rw [h2]
    cases Nat.beq n a <;> rfl
noncomputable def cl (T : List (List Nat)) : Nat → List Nat → List Nat → List Nat
  | 0, _, seen => seen.reverse
  | _ + 1, [], seen => seen.reverse
  | k + 1, f :: todo, seen => Bool.rec (motive := fun _ => List Nat) (cl T k ((T[f]?).getD [] ++ todo) (f :: seen)) (cl T k todo seen) (hasR f seen)
theorem nx {α β : Type} {f : α → β} {l : List α} {k i m : Nat} {X Y : List β} (h : ((l.drop k).take i).map f = X) (hm : k + i = m) (t : (l.drop m).map f = Y) : (l.drop k).map f = X ++ Y := by
  subst hm
  rw [← h, ← t, ← List.drop_drop, ← List.map_append, List.take_append_drop]
theorem cl_eq {P : Program} {T : List (List Nat)} (hT : P.funcs.toList.map P.leadsTo = T) : ∀ (k : Nat) (todo seen : List Nat), P.closureVia k todo seen = cl T k todo seen
  | 0, todo, seen => by cases todo <;> rfl
  | k + 1, [], seen => rfl
  | k + 1, f :: todo, seen => by
    have hg : (P.funcs[f]?).elim [] P.leadsTo = (T[f]?).getD [] := by
      rw [← hT, List.getElem?_map, Array.getElem?_toList]
      cases P.funcs[f]? <;> rfl
    unfold Program.closureVia cl
    rw [hasR_eq, hg]
    cases hs : seen.contains f with
    | true => rw [if_pos rfl]; exact cl_eq hT k todo seen
    | false => rw [if_neg (by decide)]; exact cl_eq hT k _ _
theorem clo_eq {P : Program} {T : List (List Nat)} (hT : P.funcs.toList.map P.leadsTo = T) (f : Nat) : P.closure f = cl T (1 + (T.map fun l => l.length + 1).sum) [f] [] := by
  unfold Program.closure
  rw [cl_eq hT, ← hT, List.map_map]
  rfl
noncomputable def A0 : List (List Nat) := [[], [], [1], [5, 6, 7, 8, 6, 9, 10], [11, 12, 13, 5, 8, 14, 15, 10], [16, 18, 17, 19, 20], [21, 22, 24, 23, 25], [26, 28, 27, 29, 25], [30, 31], [32, 32, 33], [34, 35], [36, 37], [38, 38, 39, 40, 40, 13], [], [8, 41], [42, 42, 43, 45], [46, 47], [], [20, 48, 47], [], [], [49, 50], [], [51], [52], [], [21, 49, 28, 27, 53], [23, 54], [55], [], [16, 47], [56, 48, 56], [57, 58], [], [59, 60], [62, 63, 61, 62, 63, 61, 64, 63, 61, 65, 46, 65, 46, 62, 66, 62, 67, 69, 68, 64, 68, 64, 70, 62, 70, 62, 14, 62, 14, 62, 8, 62, 5, 62, 5, 64, 71, 72, 72, 73, 74, 74, 75, 63, 76, 63, 76, 63, 76, 65, 65, 65, 77, 62, 78], [79, 79, 80], [81], [83, 39], [], [83], [], [84, 85], [44], [], [86], [88, 89, 47, 90, 20], [92, 91], [93], [96, 95], [], [], [], [], [98, 97], [], [48, 47, 56, 99, 100], [], [], [101, 102], [103, 103, 104, 104, 103, 105, 103, 105, 106, 103, 106, 107, 108, 108, 109, 103, 109, 109, 110, 103, 110, 111, 111, 111, 7, 6, 6, 112, 112, 113, 113, 103, 113, 113], [16, 94, 47, 114, 41], [65], [], [65], [], [16, 18], [68, 20], [16, 18, 115], [65], [30, 18], [5], [116], [116, 117], [75], [116, 20], [], [78], [], [118, 95], [], [82], [], [], [79, 79, 79], []]
theorem a0 : ((Tryz.prog.funcs.toList.drop 0).take 86).map Tryz.prog.leadsTo = A0 := by kernel_rfl
noncomputable def A1 : List (List Nat) := [[87], [119], [47], [], [120], [17], [], [94], [], [121], [], [122, 123, 124, 125, 126, 127, 128, 129, 130, 97, 97], [131, 132], [], [], [133, 134], [135, 136, 138, 139, 137, 138, 139, 137, 141, 140, 138, 140, 141, 142, 138, 142, 141, 139, 143, 138, 139, 143, 138, 144, 139, 139, 139, 139, 145, 144, 138, 146, 141, 146, 138, 139, 147, 138, 139, 147, 148, 149, 141, 139, 149, 141, 139, 150, 141, 139, 150, 139, 139, 139, 139, 145, 151, 139, 152, 139, 152, 139, 145, 151, 139, 152, 139, 152, 153, 154], [], [21, 155], [156, 50, 155], [26, 157], [21, 158], [104, 49, 29], [26, 157, 159], [26, 160, 161, 162, 164, 163], [26, 49, 49, 160], [21, 49, 165, 158], [], [], [], [47, 47], [166], [], [168], [], [], [128], [169, 169], [170, 171], [172, 172, 172, 173], [], [128, 128, 128], [174, 174], [128, 128], [128, 128, 128, 128], [], [], [175, 176], [177, 178, 179, 179, 179, 179, 180, 180, 181, 182, 182, 183, 183, 185, 184, 185, 184, 186, 186, 187, 187, 188, 190, 189, 190, 189, 190, 191, 190, 191, 190, 191, 192, 185, 193, 185, 193, 194, 190], [195], [196, 197], [198, 199, 200], [139, 139, 139, 145], [], [142], [139, 139, 145], [198, 200, 202, 201], [203, 204], [146], [], [198, 205, 206, 207], [203], [136, 98], [208, 209], [208, 209, 210, 212, 213, 211], [152], [214], [], [215, 216, 215], [24], [21, 49], [217, 155], [], [218, 165], [157, 218], [98, 219], [], [], [], [], [167, 117], [], [], [128, 128], [98], []]
theorem a1 : ((Tryz.prog.funcs.toList.drop 86).take 86).map Tryz.prog.leadsTo = A1 := by kernel_rfl
noncomputable def A2 : List (List Nat) := [[173], [220, 220, 220], [], [221, 222], [223, 224, 225, 227, 226, 227, 226, 227, 226, 227, 228, 227, 228, 227, 228, 229, 229, 230, 231, 227, 232, 227, 232, 227, 233, 234, 227, 227, 235, 227, 235, 227, 236, 227, 227, 236, 237, 237, 238, 239, 227, 240, 227, 240, 227, 240, 227, 227, 241, 227, 240, 227, 227, 243, 242, 227, 227, 243, 242], [244], [244], [245, 246, 247, 248], [181, 248], [245, 249], [245, 250], [245, 250], [245, 251, 252, 251], [], [179, 179, 253], [245, 250, 254], [245, 250, 255], [256, 246, 247], [], [256, 249], [257, 257, 259, 258], [], [], [], [260, 260], [261, 206], [196, 263, 262, 197], [260], [206, 207], [], [200, 44], [198, 260], [200, 265, 266, 264], [29], [], [], [203, 200, 44], [267, 212, 267, 98, 267, 98, 209, 209], [209, 209], [], [261, 206, 206, 207], [], [], [268, 214, 269], [270], [24], [165], [271, 272, 273, 274, 275, 276, 277, 278, 219, 219], [128], [279, 280], [281, 282, 283, 283, 283, 284, 285, 285, 285, 285, 286, 286, 287, 288, 288, 289, 289, 290, 291, 293, 292, 293, 292, 293, 292, 293, 294, 293, 295, 297, 296, 297, 296, 299, 298, 299, 298, 293], [227, 227, 227, 227, 243], [227, 227, 227, 243], [227, 243], [300, 302, 301], [], [226, 300, 302, 303], [230], [300, 304, 302, 301], [300, 305], [300, 306, 307], [226, 300, 302, 308, 301, 309], [300, 310], [311, 310, 312, 313], [311, 314, 310, 317], [300, 318, 310, 265, 319, 264], [300, 320], [300, 310], [321], [240], [241], [], [], [322, 251], [323], [324, 325, 326], [327, 328, 329], [251, 330], [330], [331, 95], [332], [], [330, 247], [333, 334, 335, 253, 336, 337], [245], [338, 338, 339, 339, 340]]
theorem a2 : ((Tryz.prog.funcs.toList.drop 172).take 86).map Tryz.prog.leadsTo = A2 := by kernel_rfl
noncomputable def A3 : List (List Nat) := [[], [], [341, 95], [342], [343], [199], [343], [], [44], [], [], [345, 344, 269, 269], [], [], [346, 346], [170, 171], [347, 347, 347, 348], [], [], [], [], [349, 350, 351], [352, 84, 352, 84, 352, 353, 352, 353, 352, 354, 356, 355, 352, 358, 357, 352, 356, 357, 352, 359, 352, 358, 360, 352, 358, 360, 361, 362, 362, 363, 363, 11, 358, 364, 358, 364, 352, 358, 15, 352, 358, 15, 358, 365, 365, 358, 365, 358, 358, 358, 358, 366, 358, 365], [367], [293, 293, 293], [368], [368, 369], [368], [368], [368, 370, 370], [368, 371, 371, 372, 372, 372], [368, 372, 372], [368, 373, 376, 375, 369], [377, 378, 379], [377, 381, 380], [], [377, 381, 380, 382], [377, 381, 383, 380, 382], [], [], [], [], [384, 385, 262], [386, 95], [], [301, 309, 388, 387], [389], [307, 305], [318], [], [391], [], [302, 392, 95, 309, 320], [384, 300], [], [44], [315, 262], [302, 316], [393, 95], [], [394, 95], [205], [302, 309, 316, 309, 395, 396], [], [251, 251, 251, 251, 398, 398], [400, 399, 401, 403, 402, 405, 404], [], [], [], [], [], [406], [407, 326, 325], [], [324], [], [252, 333], [252], [], [], [408, 408], [], [409], [], [261, 119], []]
theorem a3 : ((Tryz.prog.funcs.toList.drop 258).take 86).map Tryz.prog.leadsTo = A3 := by kernel_rfl
noncomputable def A4 : List (List Nat) := [[216], [], [], [348], [410, 410, 410], [411, 412, 413, 415, 414, 415, 414, 415, 414, 415, 416, 415, 417, 415, 417, 415, 417, 415, 417, 418, 418, 418, 419, 421, 420, 421, 420, 422, 421, 423, 421, 423, 424, 424, 425, 425, 426, 427, 428, 429, 427, 427, 427, 427, 427], [430, 431, 432, 433, 432, 434, 432, 434, 432, 434, 435, 436, 436, 437, 437, 438, 438, 438, 439, 432, 440, 432, 440, 432, 441, 432, 432, 441, 442, 432, 443, 443, 444, 432, 445, 432, 445, 445, 432, 445, 432, 445, 432, 445, 446, 432, 445, 432, 445], [447, 448, 449, 451, 450, 451, 450, 451, 450, 451, 452, 453, 453, 454, 455, 451, 451, 456, 451, 451, 456, 457, 457, 451, 458, 451, 458, 459, 460, 461, 462, 462, 462, 464, 463, 464, 463, 464, 463, 464, 463, 464, 463, 464, 463], [358], [42, 79, 87], [42, 465, 87], [42, 466], [358], [42, 42, 45, 44], [], [84, 467], [42, 79, 467, 44], [468, 469, 80], [468, 470, 80], [361, 37, 471], [36, 80, 42, 472], [473], [365], [], [474, 371, 371, 374], [], [372, 372], [475, 91], [], [167, 374, 369], [372, 372, 372, 372, 372], [], [], [476, 371, 477, 478, 479, 480, 374, 369], [], [], [], [], [479], [], [318, 481, 262], [306], [], [], [], [390], [390], [], [], [], [], [98, 482], [397], [483], [128], [], [], [], [484], [484], [485, 486], [487, 486], [488, 489, 488, 490, 489, 491], [324, 326, 407, 325, 407, 492, 493], [], [], [], [494, 494, 494, 494], [494, 494], [], [495, 496, 497, 498], [], [495, 496, 499, 499], [500, 496, 501], [502, 498], [502], [500, 503, 504, 505, 499], [], [502, 498, 506, 505, 499], [500, 503, 504, 505], [500, 507], [500, 508, 509, 510, 499, 511, 513, 512, 513], [514, 514, 515, 516, 518, 517], [], [514, 514, 519, 519, 520], [514, 514, 515, 516, 518]]
theorem a4 : ((Tryz.prog.funcs.toList.drop 344).take 86).map Tryz.prog.leadsTo = A4 := by kernel_rfl
noncomputable def A5 : List (List Nat) := [[521], [521], [], [522, 523], [522, 524, 525, 28, 27, 53], [522, 526], [522, 526, 527], [528], [528, 82], [522, 529, 82, 531, 530, 205, 529], [522, 533, 525], [534, 535, 533, 533, 536], [522, 537, 205, 54], [522, 533, 523, 538, 95, 205], [522, 537, 523, 539, 530, 54], [], [540, 540, 541, 541, 542, 542], [543], [543], [543], [544, 545, 546], [], [544, 545, 546, 547], [544, 548, 546, 547], [544, 548], [544, 548], [450, 452], [544, 549, 549], [452, 544, 550, 378], [544, 551, 551], [544, 552, 552, 553, 553, 554, 530, 555, 530], [556, 557], [], [], [], [87, 559, 558], [], [], [79, 79], [469], [], [560], [45], [], [371, 371, 371], [], [561, 371, 371, 477], [562], [], [563], [], [306], [564, 565, 566, 567, 568, 569, 570, 571, 482, 482], [174, 174], [], [572], [573], [574, 485], [575], [], [], [576], [], [], [], [577, 578, 508, 579], [508, 508], [], [510, 499], [], [495, 580, 497], [], [500, 509, 581, 583, 582], [508, 508, 508], [], [], [584, 586, 585, 586, 586, 586, 587, 589, 588], [584, 586, 505, 587, 589, 588], [590, 91], [501, 591], [], [512], [], [], [594, 594, 595], []]
theorem a5 : ((Tryz.prog.funcs.toList.drop 430).take 86).map Tryz.prog.leadsTo = A5 := by kernel_rfl
noncomputable def A6 : List (List Nat) := [[596, 597], [598], [], [599], [596, 597, 599, 599], [], [534], [], [600, 95], [601, 601], [523, 602, 603, 603], [525, 527, 601], [434, 524, 524, 522, 604, 605], [606], [121], [532], [], [524], [607, 524, 524, 536], [205, 205], [608], [529, 609, 205, 205], [], [], [], [], [], [], [610, 611], [612, 612], [550, 378, 614, 613], [], [615, 618, 617, 619, 616], [378], [], [615, 620], [620], [621, 623, 622], [], [], [625, 625, 626, 626, 627], [625, 625, 626, 626, 628], [], [397], [629, 630], [371, 371], [], [], [], [631, 631], [170, 171], [632, 632, 632, 633], [], [], [], [], [], [634, 635, 634, 490, 489], [], [], [], [508], [508], [636], [508], [637], [], [498, 498, 512], [], [], [], [], [638], [504], [], [592, 593], [641], [642, 642, 642, 642, 642, 642, 379, 378, 379], [643, 643], [], [], [], [], [], [], []]
theorem a6 : ((Tryz.prog.funcs.toList.drop 516).take 86).map Tryz.prog.leadsTo = A6 := by kernel_rfl
noncomputable def A7 : List (List Nat) := [[], [], [], [644, 205, 54], [], [524, 524], [], [645], [646, 647, 648, 612, 649, 649, 649], [], [650, 91], [], [], [618, 651, 546, 652, 546], [], [653], [654], [], [], [], [], [624, 95], [], [], [655], [656, 655, 657], [659, 627, 658], [], [], [], [633], [660, 660, 660], [488], [], [], [], [640, 639], [], [], [], [], [], [661], [662], [612], [], [612], [663], [], [620, 620, 664, 379, 378, 379], [], [], [620, 620], [], [], [], [], [], [], [532], [], [], [666, 665, 664], [], [], [], [], [], [], [], [], [], [], [], [], [], [], [], [], [], [], [], [], [], [], []]
theorem a7 : (Tryz.prog.funcs.toList.drop 602).map Tryz.prog.leadsTo = A7 := by kernel_rfl
noncomputable def LL : List (List Nat) := A0 ++ (A1 ++ (A2 ++ (A3 ++ (A4 ++ (A5 ++ (A6 ++ (A7)))))))
theorem all : Tryz.prog.funcs.toList.map Tryz.prog.leadsTo = LL := nx a0 rfl (nx a1 rfl (nx a2 rfl (nx a3 rfl (nx a4 rfl (nx a5 rfl (nx a6 rfl (a7)))))))
theorem ny {α : Type} {f : α → Bool} {l : List α} {k i m : Nat} (h : ((l.drop k).take i).any f = false) (hm : k + i = m) (t : (l.drop m).any f = false) : (l.drop k).any f = false := by
  subst hm
  rw [← List.take_append_drop i (l.drop k), List.any_append, h, List.drop_drop, t]
  rfl
theorem goes_none {P : Program} (hn : P.funcs.toList.any Func.goes = false) (f : FuncId) : P.goes f = false := by
  have h1 : ∀ g : Nat, (P.funcs[g]?).any Func.goes = false := fun g => by
    cases hg : P.funcs[g]? with
    | none => rfl
    | some fn =>
      have hm : fn ∈ P.funcs.toList := Array.mem_toList_iff.2 (Array.mem_of_getElem? hg)
      have := List.any_eq_false.1 hn fn hm
      simpa using this
  have h2 : P.funcs.any Func.goes = false := by rw [← Array.any_toList]; exact hn
  unfold Program.goes
  rw [h2, Bool.and_false, Bool.or_false, List.any_eq_false]
  intro g _
  rw [h1 g]
  exact Bool.false_ne_true
theorem goesBy_none {P : Program} (hn : P.funcs.toList.any Func.goes = false) (c : OpenClaim) : false = c.goesBy P := by
  have h1 : ∀ o : Option FuncId, o.any P.goes = false := fun o => by cases o <;> simp [goes_none hn]
  have h2 : P.inits.toList.any P.goes = false := List.any_eq_false.2 fun x _ => by simp [goes_none hn]
  unfold OpenClaim.goesBy Program.goesAt Program.goesFrom
  rw [h1, h2]
  cases c.start <;> rfl
theorem g0 : ((Tryz.prog.funcs.toList.drop 0).take 86).any Func.goes = false := by kernel_rfl
theorem g1 : ((Tryz.prog.funcs.toList.drop 86).take 86).any Func.goes = false := by kernel_rfl
theorem g2 : ((Tryz.prog.funcs.toList.drop 172).take 86).any Func.goes = false := by kernel_rfl
theorem g3 : ((Tryz.prog.funcs.toList.drop 258).take 86).any Func.goes = false := by kernel_rfl
theorem g4 : ((Tryz.prog.funcs.toList.drop 344).take 86).any Func.goes = false := by kernel_rfl
theorem g5 : ((Tryz.prog.funcs.toList.drop 430).take 86).any Func.goes = false := by kernel_rfl
theorem g6 : ((Tryz.prog.funcs.toList.drop 516).take 86).any Func.goes = false := by kernel_rfl
theorem g7 : (Tryz.prog.funcs.toList.drop 602).any Func.goes = false := by kernel_rfl
theorem stay (c : OpenClaim) : false = c.goesBy Tryz.prog := goesBy_none (P := Tryz.prog) (ny g0 rfl (ny g1 rfl (ny g2 rfl (ny g3 rfl (ny g4 rfl (ny g5 rfl (ny g6 rfl (g7)))))))) c
theorem nz {f : Nat → Bool} {a k b m n : Nat} (h : (List.range' a k).all f = true) (hb : a + k = b) (hn : k + m = n) (t : (List.range' b m).all f = true) : (List.range' a n).all f = true := by
  subst hb hn
  rw [← List.range'_append_1, List.all_append, h, t]
  rfl
theorem r0 : (List.range' 0 70).all (rowFine Tryz.prog) = true := by kernel_rfl
theorem r1 : (List.range' 70 70).all (rowFine Tryz.prog) = true := by kernel_rfl
theorem r2 : (List.range' 140 70).all (rowFine Tryz.prog) = true := by kernel_rfl
theorem r3 : (List.range' 210 70).all (rowFine Tryz.prog) = true := by kernel_rfl
theorem r4 : (List.range' 280 70).all (rowFine Tryz.prog) = true := by kernel_rfl
theorem r5 : (List.range' 350 70).all (rowFine Tryz.prog) = true := by kernel_rfl
theorem r6 : (List.range' 420 70).all (rowFine Tryz.prog) = true := by kernel_rfl
theorem r7 : (List.range' 490 70).all (rowFine Tryz.prog) = true := by kernel_rfl
theorem r8 : (List.range' 560 70).all (rowFine Tryz.prog) = true := by kernel_rfl
theorem r9 : (List.range' 630 28).all (rowFine Tryz.prog) = true := by kernel_rfl
theorem laid : laidOutB Tryz.prog = true := by
  have hs : Tryz.prog.types.size = 658 := by kernel_rfl
  have h1 : (List.range' 0 658).all (rowFine Tryz.prog) = true := nz (n := 658) r0 (by decide) (by decide) (nz (n := 588) r1 (by decide) (by decide) (nz (n := 518) r2 (by decide) (by decide) (nz (n := 448) r3 (by decide) (by decide) (nz (n := 378) r4 (by decide) (by decide) (nz (n := 308) r5 (by decide) (by decide) (nz (n := 238) r6 (by decide) (by decide) (nz (n := 168) r7 (by decide) (by decide) (nz (n := 98) r8 (by decide) (by decide) (r9)))))))))
  have h2 : Tryz.prog.globals.all (fun g => decide (g.type < Tryz.prog.types.size)) = true := by kernel_rfl
  have h3 : Tryz.prog.funcs.all (fun f => f.params.all fun t => decide (t < Tryz.prog.types.size)) = true := by kernel_rfl
  unfold laidOutB
  rw [h2, h3, hs, List.range_eq_range', h1]
  rfl
end Go.Proofs.YtmpfljfffljoeaaGreatDoor.Clo
