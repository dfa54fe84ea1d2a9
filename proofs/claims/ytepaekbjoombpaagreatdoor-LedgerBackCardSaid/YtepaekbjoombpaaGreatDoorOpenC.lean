/- Books as arguments, with the room behind them. -/
import Derived.Test.YtepaekbjoombpaaGreatDoorOpen
namespace Go.Proofs.YtepaekbjoombpaaGreatDoor
open Go Go.Proofs Go.Eng Tab Go.ChangeShapes Go.WideShapes Go.ChangeAt Go.RowKit
set_option maxRecDepth 100000
set_option linter.unusedSimpArgs false
set_option linter.unusedVariables false
section opens
variable {H : Type} {enc : TypeId × Value → H} {W : World} {base b0 : Nat} {r : Reach} {sp : Nat → Bool} {held : Bool} {v : Value} {d : DataW H} {ps : List MemPlace}
theorem trod_rowc {fuel : Nat} {cs : List Value} {x : DataW H × List MemPlace} (h : DataW.trod enc Tryz.prog W base sp held fuel 22 cs = some x) : ∃ a n c es, cs = [.slice a n c] ∧ Row W.heap a (ensV es) ∧ n = es.length ∧ n ≤ c := by
  rcases DataW.trod_slice Tryz.underlying22 h with ⟨rfl, _⟩ | ⟨a, len, cap, elems, rest, m, rfl, rfl, rfl, hb, hl, hm, hlen, hel, _, _⟩
  · exact ⟨none, 0, 0, [], rfl, .inl rfl, rfl, Nat.le_refl _⟩
  rw [cel26] at hel
  have each : ∀ i, i < len → ∃ e : En, ∀ k (hk : k < 4), W.cell? (a.add (i * 4 + k)) = (enV e)[k]? := by
    intro i hi
    have h1 := hel i hi
    rw [List.getElem?_eq_getElem (by omega), Option.bind_eq_some_iff] at h1
    obtain ⟨cs, h2, h3⟩ := h1
    obtain ⟨e, rfl, _⟩ := trod_en h3
    refine ⟨e, fun k hk => ?_⟩
    have h4 := (World.cells?_some h2).2.2 k hk
    rw [← h4]
    congr 1
    unfold Addr.add
    split <;> split <;> split <;> simp_all <;> omega
  obtain ⟨es, hes, hE⟩ := list_choose len each
  refine ⟨some a, len, cap, es, rfl, row_of fun i hi => ?_, hes.symm, hl⟩
  rw [ensV_length] at hi
  have h1 := hE (i / 4) (by omega) (i % 4) (by omega)
  rw [show i / 4 * 4 + i % 4 = i by omega] at h1
  rw [h1, ← ensV_at es (i / 4) (i % 4) (by omega) (by omega), show i / 4 * 4 + i % 4 = i by omega, List.getElem?_eq_getElem (by rw [ensV_length]; omega)]
/-- A book as an argument. -/
theorem open_bookc (hval : Value.okWide Tryz.prog W r b0 24 v) (hd : DataW.Trod enc Tryz.prog W base sp held 24 v d ps) : ∃ ac cl a n c es, v = .agg #[.int .i64 ac, .int .i64 cl, .slice a n c] ∧ Row W.heap a (ensV es) ∧ n = es.length ∧ n ≤ c := by
  obtain ⟨cs, rfl, hs⟩ := okWide_struct Tryz.underlying24 hval
  obtain ⟨fuel, hf⟩ := hd
  obtain ⟨xs, n, rfl, _, hl, hxl, hf⟩ := DataW.trod_struct Tryz.underlying24 hf
  rw [cel24] at hl
  simp only [Value.cells] at hl hf
  obtain ⟨cs⟩ := cs
  simp only at hl hf
  obtain ⟨c0, c1, c2, rfl⟩ : ∃ c0 c1 c2, cs = [c0, c1, c2] := by
    match cs, hl with
    | [c0, c1, c2], _ => exact ⟨_, _, _, rfl⟩
  obtain ⟨y0, y1, y2, rfl⟩ : ∃ y0 y1 y2, xs = [y0, y1, y2] := by
    match xs, hxl with
    | [y0, y1, y2], _ => exact ⟨_, _, _, rfl⟩
  have f0 : DataW.trod enc Tryz.prog W base sp held n 3 (([c0, c1, c2].drop 0).take (Tryz.prog.cellsOf 3)) = some y0 := hf 0 _ rfl
  have f1 : DataW.trod enc Tryz.prog W base sp held n 3 (([c0, c1, c2].drop 1).take (Tryz.prog.cellsOf 3)) = some y1 := hf 1 _ rfl
  have f2 : DataW.trod enc Tryz.prog W base sp held n 22 (([c0, c1, c2].drop 2).take (Tryz.prog.cellsOf 22)) = some y2 := hf 2 _ rfl
  rw [cel3] at f0 f1
  rw [cel22] at f2
  obtain ⟨n0, e0, _, w0⟩ := DataW.trod_int Tryz.underlying3 f0
  obtain ⟨n1, e1, _, w1⟩ := DataW.trod_int Tryz.underlying3 f1
  obtain ⟨a, m, c, es, e2, hr, hm⟩ := trod_rowc f2
  simp at e0 e1 e2
  subst e0 e1 e2
  exact ⟨n0, n1, a, m, c, es, rfl, hr, hm⟩
end opens
end Go.Proofs.YtepaekbjoombpaaGreatDoor
