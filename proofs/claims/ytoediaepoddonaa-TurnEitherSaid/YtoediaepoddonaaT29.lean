/- Sorting of places, by the library's contract. -/
import Derived.Shelf.SlGeneric
import Derived.Shelf.SlSortCmp.NoneTotal
import Derived.Ground.SlsfProg
import Derived.Test.YtoediaepoddonaaT28
namespace Go.Proofs.Ytoediaepoddonaa
open Go Go.Proofs Go.Eng Go.Run Tab
open Go.Shelf Go.RowKit Go.Lib Go.Sort
set_option maxRecDepth 100000
set_option linter.unusedSimpArgs false
set_option linter.unusedVariables false
set_option maxHeartbeats 1000000
def laysSF_ren : Go.Shelf.Ren := ⟨fun | 6 => 69 | 15 => 90 | 14 => 89 | 28 => 104 | 29 => 105 | 20 => 96 | 21 => 97 | 22 => 98 | 23 => 99 | 24 => 100 | 25 => 101 | 26 => 102 | 27 => 103 | 46 => 107 | 47 => 108 | 48 => 109 | 49 => 110 | 50 => 111 | 57 => 121 | n => n, fun | 22 => 83 | 24 => 85 | 25 => 87 | 3 => 3 | 39 => 114 | 0 => 0 | 53 => 47 | 55 => 126 | 4 => 4 | 46 => 119 | 45 => 118 | 50 => 91 | 5 => 5 | 9 => 9 | 66 => 128 | 70 => 132 | 76 => 140 | 77 => 141 | n => n, fun | n => n⟩
theorem laysSF : Go.Proofs.SlLaysF0.n6 Try.prog laysSF_ren := {
  mixed := by kernel_rfl
  f6 := ⟨Try.f69.name, by decide, Try.func69.trans (congrArg some (by kernel_rfl))⟩
  f14 := ⟨Try.f89.name, by decide, Try.func89.trans (congrArg some (by kernel_rfl))⟩
  f15 := Try.func90.trans (congrArg some (by kernel_rfl))
  f20 := ⟨Try.f96.name, by decide, Try.func96.trans (congrArg some (by kernel_rfl))⟩
  f21 := ⟨Try.f97.name, by decide, Try.func97.trans (congrArg some (by kernel_rfl))⟩
  f22 := ⟨Try.f98.name, by decide, Try.func98.trans (congrArg some (by kernel_rfl))⟩
  f23 := ⟨Try.f99.name, by decide, Try.func99.trans (congrArg some (by kernel_rfl))⟩
  f24 := ⟨Try.f100.name, by decide, Try.func100.trans (congrArg some (by kernel_rfl))⟩
  f25 := ⟨Try.f101.name, by decide, Try.func101.trans (congrArg some (by kernel_rfl))⟩
  f26 := ⟨Try.f102.name, by decide, Try.func102.trans (congrArg some (by kernel_rfl))⟩
  f27 := ⟨Try.f103.name, by decide, Try.func103.trans (congrArg some (by kernel_rfl))⟩
  f28 := Try.func104.trans (congrArg some (by kernel_rfl))
  f29 := Try.func105.trans (congrArg some (by kernel_rfl))
  f46 := ⟨Try.f107.name, by decide, Try.func107.trans (congrArg some (by kernel_rfl))⟩
  f47 := Try.func108.trans (congrArg some (by kernel_rfl))
  f48 := Try.func109.trans (congrArg some (by kernel_rfl))
  f49 := ⟨Try.f110.name, by decide, Try.func110.trans (congrArg some (by kernel_rfl))⟩
  f50 := ⟨Try.f111.name, by decide, Try.func111.trans (congrArg some (by kernel_rfl))⟩
  f57 := ⟨Try.f121.name, by decide, Try.func121.trans (congrArg some (by kernel_rfl))⟩
  t0 := Try.underlying0
  a0 := Try.isAgg0
  z0 := Try.sizeOf0
  v0 := Try.zeroValue0
  t3 := Try.underlying3
  a3 := Try.isAgg3
  z3 := Try.sizeOf3
  v3 := Try.zeroValue3
  t4 := Try.underlying4
  a4 := Try.isAgg4
  z4 := Try.sizeOf4
  v4 := Try.zeroValue4
  t5 := Try.underlying5
  a5 := Try.isAgg5
  z5 := Try.sizeOf5
  v5 := Try.zeroValue5
  t9 := Try.underlying9
  a9 := Try.isAgg9
  z9 := Try.sizeOf9
  v9 := Try.zeroValue9
  t22 := Try.underlying83
  a22 := Try.isAgg83
  z22 := Try.sizeOf83
  v22 := Try.zeroValue83
  t25 := Try.underlying87
  a25 := Try.isAgg87
  z25 := Try.sizeOf87
  v25 := Try.zeroValue87
  t39 := Try.underlying114
  a39 := Try.isAgg114
  z39 := Try.sizeOf114
  v39 := Try.zeroValue114
  t45 := Try.underlying118
  a45 := Try.isAgg118
  z45 := Try.sizeOf118
  v45 := Try.zeroValue118
  t46 := Try.underlying119
  a46 := Try.isAgg119
  z46 := Try.sizeOf119
  v46 := Try.zeroValue119
  t50 := Try.underlying91
  a50 := Try.isAgg91
  z50 := Try.sizeOf91
  v50 := Try.zeroValue91
  t53 := Try.underlying47
  a53 := Try.isAgg47
  z53 := Try.sizeOf47
  v53 := Try.zeroValue47
  t55 := Try.underlying126
  a55 := Try.isAgg126
  z55 := Try.sizeOf126
  v55 := Try.zeroValue126
  t66 := Try.underlying128
  a66 := Try.isAgg128
  z66 := Try.sizeOf128
  v66 := Try.zeroValue128
  t70 := Try.underlying132
  a70 := Try.isAgg132
  z70 := Try.sizeOf132
  v70 := Try.zeroValue132
  t76 := Try.underlying140
  a76 := Try.isAgg140
  z76 := Try.sizeOf140
  v76 := Try.zeroValue140
  t77 := Try.underlying141
  a77 := Try.isAgg141
  z77 := Try.sizeOf141
  v77 := Try.zeroValue141 }
abbrev F2 := Fin 16 × Fin 16
def encF (p : F2) : List Value := [.int .i64 (p.1.val : Int), .int .i64 (p.2.val : Int)]
def cmpF (x y : F2) : Int := if x.1 = y.1 then (x.2.val : Int) - y.2.val else (x.1.val : Int) - y.1.val
theorem cmp70 (x y : F2) (W : World) : Calls Try.prog 70 #[.agg #[.int .i64 (x.1.val : Int), .int .i64 (x.2.val : Int)], .agg #[.int .i64 (y.1.val : Int), .int .i64 (y.2.val : Int)]] W fun e w' => e = .returned (.int .i64 (cmpF x y)) ∧ ∃ q os', w' = grow (W.drewN q) os' := by
  obtain ⟨⟨a, ha⟩, ⟨b, hb⟩⟩ := x
  obtain ⟨⟨c, hc⟩, ⟨d, hd⟩⟩ := y
  unfold cmpF
  have w1 : IntKind.i64.wrap ((a : Int) - (c : Int)) = (a : Int) - (c : Int) := IntWalk.i64_in _ ⟨by omega, by omega⟩
  have w2 : IntKind.i64.wrap ((b : Int) - (d : Int)) = (b : Int) - (d : Int) := IntWalk.i64_in _ ⟨by omega, by omega⟩
  by_cases hac : a = c
  · subst hac
    simp only [if_true]
    go_enter Try.func70, Try.ntmps70
    go_wp2
    go_ret
    exact ⟨rfl, 0, _, by rw [alloc_eq_grow, alloc_eq_grow, grow_grow]; rfl⟩
  · have e0 : ¬ ((⟨a, ha⟩ : Fin 16) = ⟨c, hc⟩) := fun h => hac (Fin.mk.inj h)
    have e1 : ¬ ((a : Int) = (c : Int)) := by omega
    simp only [e0, if_false]
    go_enter Try.func70, Try.ntmps70
    go_wp2
    go_ret
    exact ⟨rfl, 0, _, by rw [alloc_eq_grow, alloc_eq_grow, grow_grow]; rfl⟩
theorem cmpLays70 (blk off size : Nat) (w : World) : CmpLays Try.prog 70 #[] encF 2 cmpF blk off size w :=
  fun _ _ _ _ x y => cmp70 x y _
theorem lt_cmpF (x y : F2) : ltOf cmpF x y = decide (x.1.val < y.1.val ∨ x.1.val = y.1.val ∧ x.2.val < y.2.val) := by
  unfold ltOf cmpF
  rw [decide_eq_decide]
  split
  · rename_i h; rw [Fin.ext_iff] at h; omega
  · rename_i h; rw [Fin.ext_iff] at h; omega
theorem swoF : SWO (ltOf cmpF) where
  irrefl x := by rw [lt_cmpF]; simp
  trans x y z h1 h2 := by rw [lt_cmpF] at *; simp at *; omega
  ntrans x y z h1 h2 := by rw [lt_cmpF] at *; simp at *; omega
theorem totF (x y : F2) (h1 : ltOf cmpF x y = false) (h2 : ltOf cmpF y x = false) : x = y := by
  rw [lt_cmpF] at h1 h2
  simp at h1 h2
  obtain ⟨⟨a, ha⟩, ⟨b, hb⟩⟩ := x
  obtain ⟨⟨c, hc⟩, ⟨d, hd⟩⟩ := y
  simp at h1 h2 ⊢
  omega
theorem flat_len (ps : List F2) : (ps.flatMap encF).length = ps.length * 2 := by
  induction ps with
  | nil => rfl
  | cons p ps ih => rw [List.flatMap_cons, List.length_append, ih]; simp [encF]; omega
theorem flat_get : ∀ (ps : List F2) (j : Nat), j < ps.length * 2 → (ps.flatMap encF)[j]? = some ((encF (ps.toArray[j / 2]!))[j % 2]!)
  | [], j, h => by simp at h
  | p :: ps, 0, h => by simp [encF]
  | p :: ps, 1, h => by simp [encF]
  | p :: ps, j + 2, h => by
    have ih := flat_get ps j (by simp at h; omega)
    have e1 : (j + 2) / 2 = j / 2 + 1 := by omega
    have e2 : (j + 2) % 2 = j % 2 := by omega
    have e3 : (List.flatMap encF (p :: ps))[j + 2]? = (ps.flatMap encF)[j]? := by
      rw [List.flatMap_cons, List.getElem?_append_right (by simp [encF])]
      simp [encF]
    rw [e3, ih, e1, e2]
    simp
theorem flatK_get (d : List F2) (j : Nat) (h : j < d.length * 2) : (flatK encF 2 d.toArray)[j]! = (encF (d.toArray[j / 2]!))[j % 2]! := get_flatK encF 2 d.toArray j (by simpa using h)
theorem sort69 (g c : Nat) (ps : List F2) (cur : Array Value) (h : Eng.Heap) (hg : h[g]? = some (.cells cur 85 (0, 0))) (hl : ps.length * 2 ≤ cur.size) (hp : cur.toList.take (ps.length * 2) = ps.flatMap encF) (hn : ps.length ≤ 1000) :
    CallsH Try.prog 69 #[.slice (some ⟨g, 0, none⟩) ps.length c, .func (.func 70) #[] #[]] h (fun v h' => v = .tuple #[] ∧ Chg h h' g ∧ Row h' (some ⟨g, 0, none⟩) ((ps.mergeSort fun x y => !(ltOf cmpF) y x).flatMap encF)) := by
  unfold CallsH CallsW
  refine And.intro (by kernel_rfl) fun w hw => ?_
  subst hw
  have hlt := lt_of_get hg
  have eg : ∀ args w, (callFunc 70 args).run Try.prog w = .ok (.enter 70 args) w := enters_of Try.func70 (by kernel_rfl) rfl
  have hH : HoldsK encF 2 w g 0 ps.toArray := by
    intro j hj
    have hj : j < ps.length * 2 := by simpa using hj
    have hcell : cur[j]? = some ((encF (ps.toArray[j / 2]!))[j % 2]!) := by
      rw [← flat_get ps j hj, ← hp, List.getElem?_take, if_pos hj]
      simp
    constructor
    · rw [flatK_get ps j hj]
      have := cell_of_row w g (0 + j) cur 85 (0, 0) hg
      rw [this, Nat.zero_add, hcell]
      rfl
    · simp [World.frozen?, hg]
  have hcon := AnyQ.slices_SortFunc_total laysSF 2 Try.isAgg85 Try.sizeOf85 encF (fun _ => rfl) (fun x v hv => by simp [encF] at hv; rcases hv with rfl | rfl <;> rfl) cmpF swoF 70 #[] g 0 c ps.toArray w eg (cmpLays70 g 0 _ w) hH hlt (by simp; omega) totF
  change Calls Try.prog 69 _ _ _ at hcon
  refine hcon.mono ?_
  rintro e w' ⟨rfl, n, os, rfl⟩
  refine ⟨_, rfl, ⟨rfl, ?_, ?_⟩, ⟨rfl, rfl, rfl⟩⟩
  · refine ⟨?_, fun b hb hne => ?_⟩
    · show w.heap.size ≤ ((w.heap.modify g _) ++ os).size
      simp
    · show ((w.heap.modify g _) ++ os)[b]? = w.heap[b]?
      rw [Array.getElem?_append_left (by simpa using hb), Array.getElem?_modify, if_neg (Ne.symm hne)]
  · obtain ⟨qs, hqs⟩ : ∃ qs, qs = ps.mergeSort fun x y => !(ltOf cmpF y x) := ⟨_, rfl⟩
    have hql : qs.length = ps.length := by rw [hqs, List.length_mergeSort]
    have e1 : (ps.toArray.toList.mergeSort fun x y => !(ltOf cmpF y x)) = qs := by rw [hqs]
    rw [e1]
    right
    have hget : (sortWorldK encF 2 w g 0 n qs.toArray os).heap[g]? = some (.cells (putCells id 0 (flatK encF 2 qs.toArray) cur) 85 (0, 0)) := by
      show ((w.heap.modify g (onCells (putCells id 0 (flatK encF 2 qs.toArray)))) ++ os)[g]? = _
      rw [Array.getElem?_append_left (by simpa using hlt), Array.getElem?_modify, if_pos rfl, hg]
      rfl
    refine ⟨g, 0, _, 85, (0, 0), rfl, hget, ?_, ?_⟩
    · rw [flat_len, hql]; simp [putCells]; omega
    · rw [flat_len, hql, List.drop_zero]
      apply List.ext_getElem?
      intro j
      rw [List.getElem?_take]
      split
      · rename_i hj
        rw [flat_get qs j (by omega), ← flatK_get qs j (by omega)]
        have hjc : j < cur.size := by omega
        simp only [putCells, Array.getElem?_toList, Array.getElem?_mapIdx, Array.getElem?_eq_getElem hjc, Option.map_some]
        rw [if_pos ⟨by omega, by simp [hql]; omega⟩]
        rfl
      · rename_i hj
        rw [List.getElem?_eq_none (by rw [flat_len, hql]; omega)]
/-- Places, as the sort takes them. -/
def toF (p : Nat × Nat) : F2 := (Fin.ofNat 16 p.1, Fin.ofNat 16 p.2)
theorem toF_enc {p : Nat × Nat} (h1 : p.1 < 16) (h2 : p.2 < 16) : encF (toF p) = [.int .i64 (p.1 : Nat), .int .i64 (p.2 : Nat)] := by
  simp [encF, toF, Fin.ofNat, Nat.mod_eq_of_lt h1, Nat.mod_eq_of_lt h2]
theorem sort_pairs {l : Nat} (hl : l ≤ 12) : (((pairsA l).map toF).mergeSort fun x y => !(ltOf cmpF y x)) = (pairs2 l).map toF := by
  have hp : ((pairsA l).map toF).Perm ((pairs2 l).map toF) := by
    refine List.Perm.map _ ?_
    rw [List.perm_ext_iff_of_nodup]
    · intro p; rw [pairsA_mem, pairs2_mem]
    · rw [← pairsB_zero]; exact pairsB_nodup _ _
    · refine (pairs2_sorted hl).imp fun {a b} h => ?_
      rintro rfl
      rcases h with h | ⟨_, h⟩ <;> omega
  refine List.Perm.eq_of_pairwise (le := fun x y => !(ltOf cmpF y x)) (fun a b _ _ h1 h2 => ?_) (List.pairwise_mergeSort (fun a b c h1 h2 => ?_) (fun a b => ?_) _) ?_ ((List.mergeSort_perm _ _).trans hp)
  · exact totF a b (by simpa using h2) (by simpa using h1)
  · rw [lt_cmpF] at *; simp at *; omega
  · rw [lt_cmpF, lt_cmpF]; simp; omega
  · rw [List.pairwise_map]
    refine (pairs2_sorted hl).imp_of_mem fun {a b} ha hb h => ?_
    have h1 := pairs2_mem.1 ha
    have h2 := pairs2_mem.1 hb
    rw [lt_cmpF]
    simp [toF, Fin.ofNat, Nat.mod_eq_of_lt (show a.1 < 16 by omega), Nat.mod_eq_of_lt (show a.2 < 16 by omega), Nat.mod_eq_of_lt (show b.1 < 16 by omega), Nat.mod_eq_of_lt (show b.2 < 16 by omega)]
    rcases h with h | ⟨h, h'⟩ <;> omega
end Go.Proofs.Ytoediaepoddonaa
