/- Walks: the document's Back. -/
import Derived.Test.YtafemfjhflfdeaaDoorPCQH51
namespace Go.Proofs.YtafemfjhflfdeaaDoor
open Go Go.Proofs Go.Eng Go.Run Tab
set_option maxRecDepth 100000
set_option linter.unusedSimpArgs false
set_option linter.unusedVariables false
set_option linter.defProp false
set_option maxHeartbeats 16000000
/-- Waits as the document keeps them: below 0 if there are none. -/
def wE (x : Nat) : Int := if x < OV.far then (x : Int) else -1
def wV (v : List Nat) : List Int := v.map wE
theorem wE_lt {x : Nat} (h : x < OV.far) : wE x = x := by rw [wE, if_pos h]
theorem wE_far : wE OV.far = -1 := by rw [wE, if_neg (Nat.lt_irrefl _)]
theorem wE_neg {x : Nat} : wE x < 0 ↔ ¬ x < OV.far := by
  unfold wE
  split <;> omega
theorem wV_length (v : List Nat) : (wV v).length = v.length := by simp [wV]
theorem wV_set (v : List Nat) (i x : Nat) : (wV v).set i (wE x) = wV (v.set i x) := by simp [wV, List.map_set]
theorem wV_at (v : List Nat) {i : Nat} (h : i < v.length) : (ints (wV v))[i]? = some (.int .i64 (wE (v.getD i 0))) := by
  rw [ints_getElem? _ _ (by rw [wV_length]; exact h)]
  congr 2
  simp [wV, List.getD, h]
theorem wV_st (o : OV) (j : Nat) : (List.replicate o.n (-1 : Int)).set j 0 = wV (o.st j) := by
  rw [OV.st, ← wV_set]
  simp [wV, wE_far, wE_lt (show 0 < OV.far by decide)]
theorem wV_far (o : OV) : List.replicate o.n (-1 : Int) = wV (List.replicate o.n OV.far) := by simp [wV, wE_far]
def pre (o : OV) (j : Nat) : Nat → List Nat
  | 0 => o.st j
  | k + 1 => o.cst (o.bk j k)
theorem bk_pre (o : OV) (j k : Nat) : o.bk j k = o.cool (pre o j k) := by cases k <;> rfl
theorem pre_length (o : OV) (j k : Nat) : (pre o j k).length = o.n := by
  cases k with
  | zero => simp [pre, OV.st]
  | succ k => exact OV.cstK_length _ _
def dn (o : OV) (v : List Nat) (t : Nat) : List Nat := ((List.range o.n).reverse.take t).foldl o.rel v
theorem dn_all (o : OV) (v : List Nat) : dn o v o.n = o.cool v := by
  rw [dn, List.take_of_length_le (by simp)]; rfl
theorem dn_succ (o : OV) (v : List Nat) {t : Nat} (ht : t < o.n) : dn o v (t + 1) = o.rel (dn o v t) (o.n - 1 - t) := by
  rw [dn, List.take_add_one, List.getElem?_eq_getElem (by simpa using ht), Option.toList_some, List.foldl_append]
  simp [dn, List.getElem_reverse]
theorem dn_length (o : OV) (v : List Nat) (t : Nat) : (dn o v t).length = v.length := OV.fold_length _ _
theorem pre_bd {o : OV} (ok : o.ok) {j : Nat} (hj : j < o.n) : ∀ k, k ≤ 40 → o.Bd (k * o.n) (pre o j k)
  | 0, _ => fun q hq => by
    rw [pre, OV.st, OV.getD_set' (by simpa using hj)]
    split
    · exact .inr (Nat.zero_le _)
    · exact .inl (by simp [List.getD_eq_getElem?_getD, hq])
  | k + 1, hk => OV.Bd.cstK ok (OV.bk_bd ok hj k (by omega)) o.n (Nat.le_refl _)
theorem dn_bd {o : OV} (ok : o.ok) {j k t : Nat} (hj : j < o.n) (hk : k ≤ 20) (ht : t ≤ o.n) : o.Bd 700 (dn o (pre o j k) t) := by
  have h16 := ok.n16
  have hb : k * o.n ≤ 20 * 16 := Nat.mul_le_mul hk h16
  have hlen : ((List.range o.n).reverse.take t).length = t := by rw [List.length_take, List.length_reverse, List.length_range]; omega
  have := OV.Bd.fold ok ((List.range o.n).reverse.take t) (pre o j k) (k * o.n) (pre_length o j k) (by rw [hlen, OV.far_eq]; omega) (fun i hi => List.mem_range.1 (List.mem_reverse.1 (List.mem_of_mem_take hi))) (pre_bd ok hj k (by omega))
  rw [hlen] at this
  exact this.mono (by omega)
/-- One wait, as the document does it. -/
theorem rel_same {o : OV} {v : List Nat} {i : Nat} (hw : o.w i < v.length) (h : v.getD (o.w i) 0 ≤ v.getD i 0 + 1) : o.rel v i = v := by
  rw [OV.rel, Nat.min_eq_left h]
  apply List.ext_getElem (by simp)
  intro q h1 h2
  rw [List.getElem_set]
  split
  · rename_i he; subst he; simp [List.getD, h2]
  · rfl
theorem rel_new {o : OV} {v : List Nat} {i : Nat} (h : v.getD i 0 + 1 ≤ v.getD (o.w i) 0) : o.rel v i = v.set (o.w i) (v.getD i 0 + 1) := by
  rw [OV.rel, Nat.min_eq_right h]
theorem cs1_same {o : OV} {v nx : List Nat} {i : Nat} (hw : o.c i < nx.length) (h : o.can (i, i) = true → nx.getD (o.c i) 0 ≤ v.getD i 0) : o.cs1 v nx i = nx := by
  unfold OV.cs1
  split
  · rename_i hc
    rw [Nat.min_eq_left (h hc)]
    apply List.ext_getElem (by simp)
    intro q h1 h2
    rw [List.getElem_set]
    split
    · rename_i he; subst he; simp [List.getD, h2]
    · rfl
  · rfl
theorem cs1_new {o : OV} {v nx : List Nat} {i : Nat} (hc : o.can (i, i) = true) (h : v.getD i 0 ≤ nx.getD (o.c i) 0) : o.cs1 v nx i = nx.set (o.c i) (v.getD i 0) := by
  unfold OV.cs1
  rw [if_pos hc, Nat.min_eq_right h]
theorem fill_set (x r : Nat) : (List.replicate x (-1 : Int) ++ 0 :: List.replicate r 0).set x (-1) = List.replicate (x + 1) (-1) ++ List.replicate r 0 := by
  have := set_mid (List.replicate x (-1)) r 0 (-1)
  rw [List.length_replicate] at this
  rw [this, List.replicate_succ', List.append_assoc]
  rfl
end Go.Proofs.YtafemfjhflfdeaaDoor
