/- Which functions topNumberedStone reaches. No condition. -/
import Derived.Test.YtmpfljfffljoeaaGreatDoorClo
namespace Go.Proofs.YtmpfljfffljoeaaGreatDoor.Clo
open Go Go.Proofs
set_option maxRecDepth 100000
set_option linter.unusedVariables false
noncomputable def K3_0 : List Nat := [3, 5, 16, 46, 88, 47, 92, 91, 17, 89, 90, 120, 20, 18, 48, 93, 94, 19, 6, 21, 49, 96, 95, 121, 50, 22, 24, 52, 23, 51, 25, 7, 26, 28, 55, 27, 54, 98, 131, 132, 97, 122, 128, 174, 123, 169, 124, 170, 171, 125, 172, 173, 220, 126, 127, 129, 130, 53, 29, 8]
noncomputable def K3_1 : List Nat := [30, 31, 56, 99, 100, 9, 32, 57, 58, 33, 10, 34, 59, 101, 133, 175, 221, 279, 349, 411, 494, 412, 413, 415, 414, 495, 577, 508, 590, 578, 579, 636, 496, 497, 498, 510, 499, 416, 417, 500, 580, 501, 418, 502, 509, 591, 592, 641, 593, 642, 379, 378, 581, 637, 583, 512, 582, 419, 421, 420]
noncomputable def K3_2 : List Nat := [503, 504, 505, 422, 506, 584, 586, 585, 587, 589, 588, 638, 640, 639, 423, 424, 507, 425, 511, 513, 426, 514, 594, 643, 595, 515, 516, 596, 597, 518, 517, 598, 427, 428, 519, 599, 520, 429, 350, 430, 521, 431, 432, 433, 522, 534, 607, 524, 600, 536, 608, 523, 434, 525, 601, 435, 526, 602, 603, 436]
noncomputable def K3_3 : List Nat := [527, 437, 528, 604, 605, 644, 661, 532, 205, 438, 82, 439, 529, 606, 531, 530, 440, 533, 441, 535, 442, 537, 609, 645, 662, 443, 538, 444, 539, 445, 446, 540, 541, 542, 351, 447, 543, 448, 449, 451, 450, 544, 610, 646, 612, 650, 647, 648, 649, 663, 611, 545, 546, 550, 614, 613, 452, 547, 453, 548]
noncomputable def K3_4 : List Nat := [615, 618, 654, 620, 651, 664, 666, 665, 652, 617, 653, 619, 616, 454, 455, 456, 457, 549, 458, 459, 551, 460, 552, 553, 621, 623, 624, 622, 554, 555, 461, 556, 625, 626, 655, 627, 656, 657, 557, 628, 659, 658, 462, 464, 463, 280, 352, 358, 84, 79, 118, 353, 42, 85, 87, 119, 168, 354, 465, 559]
noncomputable def K3_5 : List Nat := [397, 483, 558, 356, 355, 466, 357, 45, 86, 44, 359, 467, 360, 361, 468, 469, 80, 362, 470, 363, 37, 81, 471, 560, 629, 630, 11, 36, 364, 472, 15, 43, 365, 473, 366, 222, 281, 367, 282, 293, 283, 368, 474, 371, 475, 374, 372, 284, 369, 285, 286, 287, 370, 288, 289, 290, 373, 167, 376, 375]
noncomputable def K3_6 : List Nat := [291, 377, 476, 561, 477, 562, 478, 479, 563, 480, 292, 381, 380, 294, 382, 295, 383, 297, 296, 299, 298, 176, 223, 227, 243, 224, 225, 226, 300, 384, 318, 394, 481, 306, 262, 343, 385, 302, 301, 386, 228, 303, 309, 388, 387, 229, 230, 304, 389, 390, 231, 305, 307, 232, 233, 308, 391, 234, 310, 392]
noncomputable def K3_7 : List Nat := [320, 316, 393, 395, 482, 564, 565, 631, 566, 567, 632, 633, 660, 568, 569, 570, 571, 396, 235, 311, 312, 313, 236, 314, 315, 317, 237, 265, 319, 264, 238, 239, 240, 321, 241, 242, 134, 177, 244, 178, 179, 245, 322, 251, 331, 398, 246, 323, 400, 399, 401, 403, 484, 402, 405, 487, 574, 485, 572, 486]
noncomputable def K3_8 : List Nat := [573, 634, 488, 575, 635, 490, 489, 404, 247, 324, 325, 326, 248, 327, 328, 329, 406, 491, 576, 180, 181, 249, 330, 407, 492, 493, 182, 250, 183, 185, 184, 252, 332, 186, 253, 187, 254, 188, 255, 333, 334, 335, 336, 337, 190, 189, 256, 191, 192, 257, 338, 408, 339, 340, 409, 259, 258, 193, 194, 102]
noncomputable def K3_9 : List Nat := [135, 195, 136, 196, 260, 341, 197, 261, 342, 206, 138, 139, 145, 137, 198, 263, 199, 200, 207, 141, 140, 142, 202, 201, 143, 203, 204, 266, 144, 146, 147, 148, 149, 208, 209, 267, 212, 150, 210, 213, 211, 151, 152, 214, 153, 154, 215, 268, 269, 345, 344, 216, 270, 60, 103, 104, 155, 105, 156, 106]
noncomputable def K3_10 : List Nat := [157, 217, 107, 158, 108, 109, 159, 218, 165, 110, 160, 161, 219, 271, 272, 346, 273, 274, 347, 348, 410, 275, 276, 277, 278, 162, 164, 163, 111, 112, 113, 35, 62, 65, 63, 61, 114, 41, 64, 66, 67, 68, 115, 69, 70, 14, 71, 72, 116, 73, 117, 166, 74, 75, 76, 77, 78]
noncomputable def C3 : List Nat := K3_0 ++ (K3_1 ++ (K3_2 ++ (K3_3 ++ (K3_4 ++ (K3_5 ++ (K3_6 ++ (K3_7 ++ (K3_8 ++ (K3_9 ++ (K3_10))))))))))
theorem c3 : Tryz.prog.closure 3 = C3 := by rw [clo_eq all]; kernel_rfl
theorem u3 : (K3_0.any fun g => (Tryz.prog.funcs[g]?).any fun fn => match fn.body with | some c => c.unfollowed | none => entryCalls fn) = true := by kernel_rfl
theorem v3_0 : (K3_0.flatMap fun g => ((Tryz.prog.funcs[g]?).bind (·.body)).elim [] Code.globalsNamed) = [] := by kernel_rfl
theorem v3_1 : (K3_1.flatMap fun g => ((Tryz.prog.funcs[g]?).bind (·.body)).elim [] Code.globalsNamed) = [] := by kernel_rfl
theorem v3_2 : (K3_2.flatMap fun g => ((Tryz.prog.funcs[g]?).bind (·.body)).elim [] Code.globalsNamed) = [] := by kernel_rfl
theorem v3_3 : (K3_3.flatMap fun g => ((Tryz.prog.funcs[g]?).bind (·.body)).elim [] Code.globalsNamed) = [] := by kernel_rfl
theorem v3_4 : (K3_4.flatMap fun g => ((Tryz.prog.funcs[g]?).bind (·.body)).elim [] Code.globalsNamed) = [] := by kernel_rfl
theorem v3_5 : (K3_5.flatMap fun g => ((Tryz.prog.funcs[g]?).bind (·.body)).elim [] Code.globalsNamed) = [] := by kernel_rfl
theorem v3_6 : (K3_6.flatMap fun g => ((Tryz.prog.funcs[g]?).bind (·.body)).elim [] Code.globalsNamed) = [] := by kernel_rfl
theorem v3_7 : (K3_7.flatMap fun g => ((Tryz.prog.funcs[g]?).bind (·.body)).elim [] Code.globalsNamed) = [1, 2] := by kernel_rfl
theorem v3_8 : (K3_8.flatMap fun g => ((Tryz.prog.funcs[g]?).bind (·.body)).elim [] Code.globalsNamed) = [0, 0, 0] := by kernel_rfl
theorem v3_9 : (K3_9.flatMap fun g => ((Tryz.prog.funcs[g]?).bind (·.body)).elim [] Code.globalsNamed) = [] := by kernel_rfl
theorem v3_10 : (K3_10.flatMap fun g => ((Tryz.prog.funcs[g]?).bind (·.body)).elim [] Code.globalsNamed) = [] := by kernel_rfl
theorem unf3 : Tryz.prog.unfollowed 3 = true := by
  unfold Program.unfollowed
  rw [c3]
  unfold C3
  rw [List.any_append]
  exact (Bool.or_eq_true _ _).mpr (.inl u3)
theorem rec3 : Tryz.prog.recurses 3 = true := by
  unfold Program.recurses
  rw [unf3, Bool.true_or]
theorem glob3 : (C3.flatMap fun g => ((Tryz.prog.funcs[g]?).bind (·.body)).elim [] Code.globalsNamed) = [1, 2, 0, 0, 0] := by
  unfold C3
  simp only [List.flatMap_append, v3_0, v3_1, v3_2, v3_3, v3_4, v3_5, v3_6, v3_7, v3_8, v3_9, v3_10]
  rfl
theorem j9_3 : (Rows.topNumberedStoneRow.inPlace == Tryz.prog.inPlace 3) = true := by unfold Program.inPlace; rw [c3]; kernel_rfl
theorem j10_3 : (Rows.topNumberedStoneRow.unfollowed == Tryz.prog.unfollowed 3) = true := by rw [unf3]; kernel_rfl
theorem j11_3 : (Rows.topNumberedStoneRow.recurses == Tryz.prog.recurses 3) = true := by rw [rec3]; kernel_rfl
theorem j12_3 : (Rows.topNumberedStoneRow.named == Tryz.prog.varsNamed 3) = true := by unfold Program.varsNamed; rw [c3, glob3]; kernel_rfl
end Go.Proofs.YtmpfljfffljoeaaGreatDoor.Clo
