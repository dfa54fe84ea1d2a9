/- Texts joined by pack.py: lemmas for YtmgkeeefbfefgaaLists. No condition. -/
import Derived.Test.YtmgkeeefbfefgaaPE11
import Derived.ProofKit
import Derived.OpenShut
import Derived.Below
import Derived.WideKeyArgs
import Derived.ChangeSlices
set_option linter.unusedSimpArgs false
set_option linter.unusedVariables false
set_option linter.defProp false
section
set_option linter.unusedVariables false
set_option linter.unusedSimpArgs false
namespace Go.Eng
open Go Go.ChangeShapes Go.WideShapes Go.ChangeAt Go.RowKit
section rowkit
variable {P : Program} {H : Type} {enc : TypeId × Value → H}
theorem same_of {W W' : World} (x : Ext W.heap W'.heap) {p : MemPlace} (hp : p.block < W.heap.size) : W.sameAt W' p := by
  have h := x.old p.block hp
  cases p with
  | cell b o => exact World.cell?_of_block (w := W) h
  | map b => exact h
theorem trodAll_ext (hl : laidOutB P = true) {W W' : World} (x : Ext W.heap W'.heap) {sp : Nat → Bool} : ∀ {ts : List TypeId} {vs : List Value} {ds : List (DataW H)} {ps : List MemPlace},
    (ts.all fun t => P.readableRec t && decide (t < P.types.size)) = true → DataW.TrodAll enc P W 0 (fun _ => true) true ts vs ds ps → (∀ p ∈ ps, p.block < W.heap.size) → (∀ p ∈ ps, sp p.block = true) → DataW.TrodAll enc P W' 0 sp true ts vs ds ps
  | [], [], [], ps, _, h, _, _ => h
  | t :: ts, v :: vs, d :: ds, ps, ht, ⟨p, q, h1, h2, he⟩, hb, hs => by
    subst he
    simp only [List.all_cons, Bool.and_eq_true, decide_eq_true_eq] at ht
    exact ⟨p, q, WideElems.Trod_stays hl ht.1.1 ht.1.2 h1 (fun y hy => same_of x (hb y (by simp [hy]))) (fun y hy => hs y (by simp [hy])),
      trodAll_ext hl x (by simpa using ht.2) h2 (fun y hy => hb y (by simp [hy])) (fun y hy => hs y (by simp [hy])), rfl⟩
theorem open_slice {W : World} {base b0 : Nat} {r : Reach} {sp : Nat → Bool} {held : Bool} {t e : TypeId} {v : Value} {d : DataW H} {ps : List MemPlace} (ht : P.underlying t = some (.slice e)) (he : P.underlying e = some (.int .i64)) (hc : P.cellsOf e = 1)
    (hval : Value.okWide P W r b0 t v) (hd : DataW.Trod enc P W base sp held t v d ps) : ∃ a n c xs, v = .slice a n c ∧ IntsV W.heap a n xs ∧ n ≤ c ∧ c ≤ maxLen ∧ ∀ x ∈ xs, (Lit.int .i64 x).wf = true := by
  obtain ⟨a0, n, c, rfl⟩ := okWide_slice ht hval
  obtain ⟨fuel, hf⟩ := hd
  rcases open_ints ht he hc hf with ⟨hcs, _⟩ | ⟨a, len, cap, zs, hcs, _, hl, hm, hz, _, hcell, hw⟩
  · simp [Value.cells] at hcs
    obtain ⟨rfl, rfl, rfl⟩ := hcs
    exact ⟨none, 0, 0, [], rfl, IntsV.nil _, by omega, by omega, by simp⟩
  · simp [Value.cells] at hcs
    obtain ⟨rfl, rfl, rfl⟩ := hcs
    have hlz : n ≤ zs.length := by rw [hz]; split <;> omega
    refine ⟨some a, n, c, zs.take n, rfl, ⟨by simp; omega, ?_⟩, hl, hm, fun x hx => hw x (List.mem_of_mem_take hx)⟩
    by_cases hn : n = 0
    · left; subst hn; simp [Eng.ints]
    · right
      have h0 := hcell 0 (by omega)
      have key : ∀ i u, W.cell? (a.add i) = some u → (i = 0 → a.spot = none) ∧ ∃ cur ct fr, W.heap[a.block]? = some (.cells cur ct fr) ∧ cur[a.off + i]? = some u := by
        intro i u hu
        unfold World.cell? Addr.add at hu
        by_cases hi : i = 0
        · subst hi
          simp only [if_true] at hu
          split at hu <;> simp_all
        · simp only [hi, if_false] at hu
          split at hu <;> simp_all
      obtain ⟨hsp, cur, ct, fr, hb, _⟩ := key 0 _ h0
      have hcur : ∀ i, i < zs.length → cur[a.off + i]? = some (.int .i64 (zs.getD i 0)) := fun i hi => by
        obtain ⟨_, cur2, ct2, fr2, hb2, hc2⟩ := key i _ (hcell i hi)
        rw [hb] at hb2
        cases hb2
        exact hc2
      have hsz : a.off + n ≤ cur.size := by
        have := hcur (n - 1) (by omega)
        have := (Array.getElem?_eq_some_iff.1 this).1
        omega
      obtain ⟨b, off, spot⟩ := a
      replace hsp := hsp rfl
      simp only at hsp hb hcur hsz
      subst hsp
      refine ⟨b, off, cur, ct, fr, rfl, hb, by simp [Eng.ints_length]; omega, ?_⟩
      apply List.ext_getElem?
      intro i
      rw [Eng.ints_length, List.length_take, List.getElem?_take, List.getElem?_drop]
      by_cases hi : i < n
      · rw [if_pos (by omega), Array.getElem?_toList, hcur i (by omega), Eng.ints_getElem? _ _ (by simp; omega)]
        simp [List.getD, List.getElem?_take, hi]
      · rw [if_neg (by omega), List.getElem?_eq_none]
        rw [Eng.ints_length, List.length_take]; omega
theorem calls_ext {f : FuncId} {args : Array Value} {W : World} {b : Bool} (hc : CallsH P f args W.heap (fun v h' => v = .bool b ∧ Ext W.heap h')) : Calls P f args W fun e W' => e = .returned (.bool b) ∧ Ext W.heap W'.heap ∧ Rest W W' := by
  unfold CallsH CallsW at hc
  refine Calls.mono (hc.2 W rfl) ?_
  rintro e W' ⟨v, rfl, ⟨rfl, x⟩, r⟩
  exact ⟨rfl, x, r⟩
end rowkit
end Go.Eng
end
section
set_option linter.unusedVariables false
set_option linter.unusedSimpArgs false
namespace Go.Eng
open Go Go.ChangeShapes Go.WideShapes Go.ChangeAt Go.RowKit
theorem row_of {W : World} {a : Addr} {vs : List Value} (hc : ∀ i (hi : i < vs.length), W.cell? (a.add i) = some vs[i]) : Row W.heap (some a) vs := by
  by_cases hn : vs.length = 0
  · left; exact List.eq_nil_of_length_eq_zero hn
  right
  have key : ∀ i u, W.cell? (a.add i) = some u → (i = 0 → a.spot = none) ∧ ∃ cur ct fr, W.heap[a.block]? = some (.cells cur ct fr) ∧ cur[a.off + i]? = some u := by
    intro i u hu
    unfold World.cell? Addr.add at hu
    by_cases hi : i = 0
    · subst hi
      simp only [if_true] at hu
      split at hu <;> simp_all
    · simp only [hi, if_false] at hu
      split at hu <;> simp_all
  obtain ⟨hsp, cur, ct, fr, hb, _⟩ := key 0 _ (hc 0 (by omega))
  have hcur : ∀ i (hi : i < vs.length), cur[a.off + i]? = some vs[i] := fun i hi => by
    obtain ⟨_, cur2, ct2, fr2, hb2, hc2⟩ := key i _ (hc i hi)
    rw [hb] at hb2
    cases hb2
    exact hc2
  have hsz : a.off + vs.length ≤ cur.size := by
    have := hcur (vs.length - 1) (by omega)
    have := (Array.getElem?_eq_some_iff.1 this).1
    omega
  obtain ⟨b, off, spot⟩ := a
  replace hsp := hsp rfl
  simp only at hsp hb hcur hsz
  subst hsp
  refine ⟨b, off, cur, ct, fr, rfl, hb, hsz, ?_⟩
  apply List.ext_getElem?
  intro i
  rw [List.getElem?_take, List.getElem?_drop]
  by_cases hi : i < vs.length
  · rw [if_pos hi, Array.getElem?_toList, hcur i hi, List.getElem?_eq_getElem hi]
  · rw [if_neg hi, List.getElem?_eq_none (by omega)]
theorem list_choose {α : Type} {p : Nat → α → Prop} : ∀ n, (∀ i < n, ∃ x, p i x) → ∃ l : List α, l.length = n ∧ ∀ i (hi : i < l.length), p i l[i]
  | 0, _ => ⟨[], rfl, fun i hi => by simp at hi⟩
  | n + 1, H => by
    obtain ⟨l, hl, h⟩ := list_choose n fun i hi => H i (by omega)
    obtain ⟨x, hx⟩ := H n (by omega)
    refine ⟨l ++ [x], by simp [hl], fun i hi => ?_⟩
    by_cases hin : i < l.length
    · rw [List.getElem_append_left hin]; exact h i hin
    · have : i = l.length := by simp at hi; omega
      subst this
      rw [List.getElem_append_right (Nat.le_refl _)]
      simpa [hl] using hx
end Go.Eng
end
section
namespace Go.Proofs.Ytmgkeeefbfefgaa
open Go Go.Proofs Go.Eng Tab Go.ChangeShapes Go.WideShapes Go.ChangeAt Go.RowKit
set_option maxRecDepth 100000
set_option linter.unusedSimpArgs false
set_option linter.unusedVariables false
theorem row_of {W : World} {a : Addr} {vs : List Value} (hc : ∀ i (hi : i < vs.length), W.cell? (a.add i) = some vs[i]) : Row W.heap (some a) vs := by
  by_cases hn : vs.length = 0
  · left; exact List.eq_nil_of_length_eq_zero hn
  right
  have key : ∀ i u, W.cell? (a.add i) = some u → (i = 0 → a.spot = none) ∧ ∃ cur ct fr, W.heap[a.block]? = some (.cells cur ct fr) ∧ cur[a.off + i]? = some u := by
    intro i u hu
    unfold World.cell? Addr.add at hu
    by_cases hi : i = 0
    · subst hi
      simp only [if_true] at hu
      split at hu <;> simp_all
    · simp only [hi, if_false] at hu
      split at hu <;> simp_all
  obtain ⟨hsp, cur, ct, fr, hb, _⟩ := key 0 _ (hc 0 (by omega))
  have hcur : ∀ i (hi : i < vs.length), cur[a.off + i]? = some vs[i] := fun i hi => by
    obtain ⟨_, cur2, ct2, fr2, hb2, hc2⟩ := key i _ (hc i hi)
    rw [hb] at hb2
    cases hb2
    exact hc2
  have hsz : a.off + vs.length ≤ cur.size := by
    have := hcur (vs.length - 1) (by omega)
    have := (Array.getElem?_eq_some_iff.1 this).1
    omega
  obtain ⟨b, off, spot⟩ := a
  replace hsp := hsp rfl
  simp only at hsp hb hcur hsz
  subst hsp
  refine ⟨b, off, cur, ct, fr, rfl, hb, hsz, ?_⟩
  apply List.ext_getElem?
  intro i
  rw [List.getElem?_take, List.getElem?_drop]
  by_cases hi : i < vs.length
  · rw [if_pos hi, Array.getElem?_toList, hcur i hi, List.getElem?_eq_getElem hi]
  · rw [if_neg hi, List.getElem?_eq_none (by omega)]
theorem list_choose {α : Type} {p : Nat → α → Prop} : ∀ n, (∀ i < n, ∃ x, p i x) → ∃ l : List α, l.length = n ∧ ∀ i (hi : i < l.length), p i l[i]
  | 0, _ => ⟨[], rfl, fun i hi => by simp at hi⟩
  | n + 1, H => by
    obtain ⟨l, hl, h⟩ := list_choose n fun i hi => H i (by omega)
    obtain ⟨x, hx⟩ := H n (by omega)
    refine ⟨l ++ [x], by simp [hl], fun i hi => ?_⟩
    by_cases hin : i < l.length
    · rw [List.getElem_append_left hin]; exact h i hin
    · have : i = l.length := by simp at hi; omega
      subst this
      rw [List.getElem_append_right (Nat.le_refl _)]
      simpa [hl] using hx
section opens
variable {H : Type} {enc : TypeId × Value → H} {W : World} {base b0 : Nat} {r : Reach} {sp : Nat → Bool} {held : Bool} {v : Value} {d : DataW H} {ps : List MemPlace}
theorem cel3 : Try.prog.cellsOf 3 = 1 := by kernel_rfl
theorem cel22 : Try.prog.cellsOf 22 = 1 := by kernel_rfl
theorem cel24 : Try.prog.cellsOf 24 = 3 := by kernel_rfl
theorem cel58 : Try.prog.cellsOf 58 = 2 := by kernel_rfl
theorem wsV_at (es : List Wn) (j k : Nat) (hj : j < es.length) (hk : k < 2) : (wsV es)[j * 2 + k]? = (wnV es[j])[k]? := by
  have h := wsV_get es j hj
  have : (((wsV es).drop (j * 2)).take 2)[k]? = (wnV es[j])[k]? := by rw [h]
  rwa [List.getElem?_take, if_pos hk, List.getElem?_drop] at this
theorem trod_wn {fuel : Nat} {cs : List Value} {x : DataW H × List MemPlace} (h : DataW.trod enc Try.prog W base sp held fuel 58 cs = some x) : ∃ e : Wn, cs = wnV e := by
  obtain ⟨xs, n, rfl, rfl, hl, hxl, hf⟩ := DataW.trod_struct Try.underlying58 h
  rw [cel58] at hl
  obtain ⟨c0, c1, rfl⟩ : ∃ c0 c1, cs = [c0, c1] := by
    match cs, hl with
    | [c0, c1], _ => exact ⟨_, _, rfl⟩
  obtain ⟨y0, y1, rfl⟩ : ∃ y0 y1, xs = [y0, y1] := by
    match xs, hxl with
    | [y0, y1], _ => exact ⟨_, _, rfl⟩
  have f0 : DataW.trod enc Try.prog W base sp held n 3 (([c0, c1].drop 0).take (Try.prog.cellsOf 3)) = some y0 := hf 0 _ rfl
  have f1 : DataW.trod enc Try.prog W base sp held n 3 (([c0, c1].drop 1).take (Try.prog.cellsOf 3)) = some y1 := hf 1 _ rfl
  rw [cel3] at f0 f1
  obtain ⟨n0, e0, _, w0⟩ := DataW.trod_int Try.underlying3 f0
  obtain ⟨n1, e1, _, w1⟩ := DataW.trod_int Try.underlying3 f1
  simp at e0 e1
  subst e0 e1
  exact ⟨⟨n0, n1⟩, rfl⟩
theorem trod_row {fuel : Nat} {cs : List Value} {x : DataW H × List MemPlace} (h : DataW.trod enc Try.prog W base sp held fuel 22 cs = some x) : ∃ a n c es, cs = [.slice a n c] ∧ Row W.heap a (wsV es) ∧ n = es.length := by
  rcases DataW.trod_slice Try.underlying22 h with ⟨rfl, _⟩ | ⟨a, len, cap, elems, rest, m, rfl, rfl, rfl, hb, hl, hm, hlen, hel, _, _⟩
  · exact ⟨none, 0, 0, [], rfl, .inl rfl, rfl⟩
  rw [cel58] at hel
  have each : ∀ i, i < len → ∃ e : Wn, ∀ k (hk : k < 2), W.cell? (a.add (i * 2 + k)) = (wnV e)[k]? := by
    intro i hi
    have h1 := hel i hi
    rw [List.getElem?_eq_getElem (by omega), Option.bind_eq_some_iff] at h1
    obtain ⟨cs, h2, h3⟩ := h1
    obtain ⟨e, rfl⟩ := trod_wn h3
    refine ⟨e, fun k hk => ?_⟩
    have h4 := (World.cells?_some h2).2.2 k hk
    rw [← h4]
    congr 1
    unfold Addr.add
    split <;> split <;> split <;> simp_all <;> omega
  obtain ⟨es, hes, hE⟩ := list_choose len each
  refine ⟨some a, len, cap, es, rfl, row_of fun i hi => ?_, hes.symm⟩
  rw [wsV_length] at hi
  have h1 := hE (i / 2) (by omega) (i % 2) (by omega)
  rw [show i / 2 * 2 + i % 2 = i by omega] at h1
  rw [h1, ← wsV_at es (i / 2) (i % 2) (by omega) (by omega), show i / 2 * 2 + i % 2 = i by omega, List.getElem?_eq_getElem (by rw [wsV_length]; omega)]
theorem open_book (hval : Value.okWide Try.prog W r b0 24 v) (hd : DataW.Trod enc Try.prog W base sp held 24 v d ps) : ∃ ac cl a n c es, v = .agg #[.int .i64 ac, .int .i64 cl, .slice a n c] ∧ Row W.heap a (wsV es) ∧ n = es.length := by
  obtain ⟨cs, rfl, hs⟩ := okWide_struct Try.underlying24 hval
  obtain ⟨fuel, hf⟩ := hd
  obtain ⟨xs, n, rfl, _, hl, hxl, hf⟩ := DataW.trod_struct Try.underlying24 hf
  rw [cel24] at hl
  simp only [Value.cells] at hl hf
  obtain ⟨cs⟩ := cs
  simp only at hl hf
  obtain ⟨c0, c1, c2, rfl⟩ : ∃ c0 c1 c2, cs = [c0, c1, c2] := by
    match cs, hl with
    | [c0, c1, c2], _ => exact ⟨_, _, _, rfl⟩
  obtain ⟨y0, y1, y2, rfl⟩ : ∃ y0 y1 y2, xs = [y0, y1, y2] := by
    match xs, hxl with
    | [y0, y1, y2], _ => exact ⟨_, _, _, rfl⟩
  have f0 : DataW.trod enc Try.prog W base sp held n 3 (([c0, c1, c2].drop 0).take (Try.prog.cellsOf 3)) = some y0 := hf 0 _ rfl
  have f1 : DataW.trod enc Try.prog W base sp held n 3 (([c0, c1, c2].drop 1).take (Try.prog.cellsOf 3)) = some y1 := hf 1 _ rfl
  have f2 : DataW.trod enc Try.prog W base sp held n 22 (([c0, c1, c2].drop 2).take (Try.prog.cellsOf 22)) = some y2 := hf 2 _ rfl
  rw [cel3] at f0 f1
  rw [cel22] at f2
  obtain ⟨n0, e0, _, w0⟩ := DataW.trod_int Try.underlying3 f0
  obtain ⟨n1, e1, _, w1⟩ := DataW.trod_int Try.underlying3 f1
  obtain ⟨a, m, c, es, e2, hr, hm⟩ := trod_row f2
  simp at e0 e1 e2
  subst e0 e1 e2
  exact ⟨n0, n1, a, m, c, es, rfl, hr, hm⟩
end opens
end Go.Proofs.Ytmgkeeefbfefgaa
end
