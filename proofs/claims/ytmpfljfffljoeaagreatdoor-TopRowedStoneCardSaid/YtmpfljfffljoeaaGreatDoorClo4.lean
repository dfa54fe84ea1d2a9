/- Which functions topRowedStone reaches. No condition. -/
import Derived.Test.YtmpfljfffljoeaaGreatDoorClo
namespace Go.Proofs.YtmpfljfffljoeaaGreatDoor.Clo
open Go Go.Proofs
set_option maxRecDepth 100000
set_option linter.unusedVariables false
noncomputable def K4_0 : List Nat := [4, 11, 36, 79, 118, 95, 121, 80, 37, 81, 82, 12, 38, 83, 39, 40, 13, 5, 16, 46, 88, 47, 92, 91, 17, 89, 90, 120, 20, 18, 48, 93, 94, 19, 8, 30, 31, 56, 99, 100, 14, 41, 15, 42, 84, 85, 43, 44, 45, 86, 87, 119, 168, 10, 34, 59, 101, 133, 175, 221]
noncomputable def K4_1 : List Nat := [279, 349, 411, 494, 412, 413, 415, 414, 495, 577, 508, 590, 578, 579, 636, 496, 497, 498, 510, 499, 416, 417, 500, 580, 501, 418, 502, 509, 591, 592, 641, 593, 642, 379, 378, 581, 637, 583, 512, 582, 419, 421, 420, 503, 504, 505, 422, 506, 584, 586, 585, 587, 589, 588, 638, 640, 639, 423, 424, 507]
noncomputable def K4_2 : List Nat := [425, 511, 513, 426, 514, 594, 643, 595, 515, 516, 596, 597, 518, 517, 598, 427, 428, 519, 599, 520, 429, 350, 430, 521, 431, 432, 433, 522, 534, 607, 524, 600, 536, 608, 523, 434, 525, 601, 28, 55, 27, 23, 51, 54, 98, 131, 132, 97, 122, 128, 174, 123, 169, 124, 170, 171, 125, 172, 173, 220]
noncomputable def K4_3 : List Nat := [126, 127, 129, 130, 53, 435, 526, 602, 603, 436, 527, 437, 528, 604, 605, 644, 661, 532, 205, 29, 438, 439, 529, 606, 531, 530, 440, 533, 441, 535, 442, 537, 609, 645, 662, 443, 538, 444, 539, 445, 446, 540, 541, 542, 351, 447, 543, 448, 449, 451, 450, 544, 610, 646, 612, 650, 647, 648, 649, 663]
noncomputable def K4_4 : List Nat := [611, 545, 546, 550, 614, 613, 452, 547, 453, 548, 615, 618, 654, 620, 651, 664, 666, 665, 652, 617, 653, 619, 616, 454, 455, 456, 457, 549, 458, 459, 551, 460, 552, 553, 621, 623, 624, 622, 554, 555, 461, 556, 625, 626, 655, 627, 656, 657, 557, 628, 659, 658, 462, 464, 463, 280, 352, 358, 353, 354]
noncomputable def K4_5 : List Nat := [465, 559, 397, 483, 558, 356, 355, 466, 357, 359, 467, 360, 361, 468, 469, 362, 470, 363, 471, 560, 629, 630, 364, 472, 365, 473, 366, 222, 281, 367, 282, 293, 283, 368, 474, 371, 475, 374, 372, 284, 369, 285, 286, 287, 370, 288, 289, 290, 373, 167, 376, 375, 291, 377, 476, 561, 477, 562, 478, 479]
noncomputable def K4_6 : List Nat := [563, 480, 292, 381, 380, 294, 382, 295, 383, 297, 296, 299, 298, 176, 223, 227, 243, 224, 225, 226, 300, 384, 318, 394, 481, 306, 262, 343, 385, 302, 301, 386, 228, 303, 309, 388, 387, 229, 230, 304, 389, 390, 231, 305, 307, 232, 233, 308, 391, 234, 310, 392, 320, 316, 393, 395, 482, 564, 565, 631]
noncomputable def K4_7 : List Nat := [566, 567, 632, 633, 660, 568, 569, 570, 571, 396, 235, 311, 312, 313, 236, 314, 315, 317, 237, 265, 319, 264, 238, 239, 240, 321, 241, 242, 134, 177, 244, 178, 179, 245, 322, 251, 331, 398, 246, 323, 400, 399, 401, 403, 484, 402, 405, 487, 574, 485, 572, 486, 573, 634, 488, 575, 635, 490, 489, 404]
noncomputable def K4_8 : List Nat := [247, 324, 325, 326, 248, 327, 328, 329, 406, 491, 576, 180, 181, 249, 330, 407, 492, 493, 182, 250, 183, 185, 184, 252, 332, 186, 253, 187, 254, 188, 255, 333, 334, 335, 336, 337, 190, 189, 256, 191, 192, 257, 338, 408, 339, 340, 409, 259, 258, 193, 194, 102, 135, 195, 136, 196, 260, 341, 197, 261]
noncomputable def K4_9 : List Nat := [342, 206, 138, 139, 145, 137, 198, 263, 199, 200, 207, 141, 140, 142, 202, 201, 143, 203, 204, 266, 144, 146, 147, 148, 149, 208, 209, 267, 212, 150, 210, 213, 211, 151, 152, 214, 153, 154, 215, 268, 269, 345, 344, 216, 270, 60, 103, 104, 21, 49, 96, 50, 155, 24, 52, 105, 156, 106, 26, 157]
noncomputable def K4_10 : List Nat := [217, 107, 158, 108, 109, 159, 218, 165, 110, 160, 161, 219, 271, 272, 346, 273, 274, 347, 348, 410, 275, 276, 277, 278, 162, 164, 163, 111, 7, 25, 6, 22, 112, 113, 35, 62, 65, 63, 61, 114, 64, 66, 67, 68, 115, 69, 70, 71, 72, 116, 73, 117, 166, 74, 75, 76, 77, 78]
noncomputable def C4 : List Nat := K4_0 ++ (K4_1 ++ (K4_2 ++ (K4_3 ++ (K4_4 ++ (K4_5 ++ (K4_6 ++ (K4_7 ++ (K4_8 ++ (K4_9 ++ (K4_10))))))))))
theorem c4 : Tryz.prog.closure 4 = C4 := by rw [clo_eq all]; kernel_rfl
theorem u4 : (K4_0.any fun g => (Tryz.prog.funcs[g]?).any fun fn => match fn.body with | some c => c.unfollowed | none => entryCalls fn) = true := by kernel_rfl
theorem v4_0 : (K4_0.flatMap fun g => ((Tryz.prog.funcs[g]?).bind (·.body)).elim [] Code.globalsNamed) = [] := by kernel_rfl
theorem v4_1 : (K4_1.flatMap fun g => ((Tryz.prog.funcs[g]?).bind (·.body)).elim [] Code.globalsNamed) = [] := by kernel_rfl
theorem v4_2 : (K4_2.flatMap fun g => ((Tryz.prog.funcs[g]?).bind (·.body)).elim [] Code.globalsNamed) = [] := by kernel_rfl
theorem v4_3 : (K4_3.flatMap fun g => ((Tryz.prog.funcs[g]?).bind (·.body)).elim [] Code.globalsNamed) = [] := by kernel_rfl
theorem v4_4 : (K4_4.flatMap fun g => ((Tryz.prog.funcs[g]?).bind (·.body)).elim [] Code.globalsNamed) = [] := by kernel_rfl
theorem v4_5 : (K4_5.flatMap fun g => ((Tryz.prog.funcs[g]?).bind (·.body)).elim [] Code.globalsNamed) = [] := by kernel_rfl
theorem v4_6 : (K4_6.flatMap fun g => ((Tryz.prog.funcs[g]?).bind (·.body)).elim [] Code.globalsNamed) = [] := by kernel_rfl
theorem v4_7 : (K4_7.flatMap fun g => ((Tryz.prog.funcs[g]?).bind (·.body)).elim [] Code.globalsNamed) = [1, 2] := by kernel_rfl
theorem v4_8 : (K4_8.flatMap fun g => ((Tryz.prog.funcs[g]?).bind (·.body)).elim [] Code.globalsNamed) = [0, 0, 0] := by kernel_rfl
theorem v4_9 : (K4_9.flatMap fun g => ((Tryz.prog.funcs[g]?).bind (·.body)).elim [] Code.globalsNamed) = [] := by kernel_rfl
theorem v4_10 : (K4_10.flatMap fun g => ((Tryz.prog.funcs[g]?).bind (·.body)).elim [] Code.globalsNamed) = [] := by kernel_rfl
theorem unf4 : Tryz.prog.unfollowed 4 = true := by
  unfold Program.unfollowed
  rw [c4]
  unfold C4
  rw [List.any_append]
  exact (Bool.or_eq_true _ _).mpr (.inl u4)
theorem rec4 : Tryz.prog.recurses 4 = true := by
  unfold Program.recurses
  rw [unf4, Bool.true_or]
theorem glob4 : (C4.flatMap fun g => ((Tryz.prog.funcs[g]?).bind (·.body)).elim [] Code.globalsNamed) = [1, 2, 0, 0, 0] := by
  unfold C4
  simp only [List.flatMap_append, v4_0, v4_1, v4_2, v4_3, v4_4, v4_5, v4_6, v4_7, v4_8, v4_9, v4_10]
  rfl
theorem j9_4 : (Rows.topRowedStoneRow.inPlace == Tryz.prog.inPlace 4) = true := by unfold Program.inPlace; rw [c4]; kernel_rfl
theorem j10_4 : (Rows.topRowedStoneRow.unfollowed == Tryz.prog.unfollowed 4) = true := by rw [unf4]; kernel_rfl
theorem j11_4 : (Rows.topRowedStoneRow.recurses == Tryz.prog.recurses 4) = true := by rw [rec4]; kernel_rfl
theorem j12_4 : (Rows.topRowedStoneRow.named == Tryz.prog.varsNamed 4) = true := by unfold Program.varsNamed; rw [c4, glob4]; kernel_rfl
end Go.Proofs.YtmpfljfffljoeaaGreatDoor.Clo
