/- The engine: strings and rows of bytes. No condition. -/
import Derived.Test.YtepaekbjoombpaaGreatDoorEngM
import Derived.Lib.ConvBytes
import Derived.Laws.BytesString
set_option linter.unusedVariables false
set_option linter.unusedSimpArgs false
namespace Go.Eng
open Go
attribute [local semireducible] opSem opQS CallsW setD WP
section bytes
variable {P : Program} {er : Env} {h : Heap} {ty : TypeId}
/-- The bytes of a string, as a row's cells. -/
def strV (s : ByteArray) : List Value := s.data.toList.map fun b => .int .u8 b.toNat
theorem strV_length (s : ByteArray) : (strV s).length = s.size := by rw [strV, List.length_map, Array.length_toList]; rfl
theorem strV_get (s : ByteArray) {i : Nat} (hi : i < (strV s).length) : (strV s)[i] = .int .u8 (s.data.getD i 0).toNat := by
  have hi' : i < s.data.size := by simpa [strV] using hi
  rw [Array.getD_eq_getD_getElem?, Array.getElem?_eq_getElem hi', Option.getD_some]
  simp [strV]
theorem conv_str_bytesT {src dst e : TypeId} (hs : P.underlying src = some .string) (hd : P.underlying dst = some (.slice e)) (he : P.underlying e = some (.int .u8)) {s : ByteArray} {x : Operand} {Q : Value → Heap → Prop} (hx : ev er x = .string s)
    (H : ∀ a c h', s.size ≤ c → a = some ⟨h.size, 0, none⟩ → Row h' a (strV s) → Ext h h' → Q (.slice a s.size c) h') : opSem P (.convert src dst x) ty er h Q := by
  unfold opSem
  refine And.intro rfl fun w hw => ?_
  subst hw
  have g1 := Lib.run_convert_string_bytes (P := P) w src dst e s hs hd he
  have h1 : (execOp (ev er) { dst := none, op := .convert src dst x, type := ty, pos := "", after := #[], guard := none }).run P w = .ok (.value (.slice (some ⟨w.heap.size, 0, none⟩) s.size (grownCap w s.size 0 e))) (Lib.bytesWorld w e s) := by
    simp only [execOp, hx, Sem.run_bind, g1, Result.andThen_ok, Sem.run_pure]
  rw [h1]
  refine ⟨H _ _ _ (grownCap_ge w s.size 0 e) rfl (.inr ⟨w.heap.size, 0, _, _, _, rfl, Lib.bytesWorld_at_new w e s, ?_, ?_⟩) ⟨by rw [Lib.bytesWorld_size]; omega, fun c hc => Lib.bytesWorld_at_old w e s c hc⟩, rfl, rfl, rfl⟩
  · rw [strV_length]; simp [Lib.bytesCells]
  · rw [strV_length]
    have h2 : s.size = (s.data.toList.map fun b => Value.int .u8 (b.toNat : Int)).length := by rw [List.length_map, Array.length_toList]; rfl
    rw [List.drop_zero, Lib.bytesCells, Array.toList_append, Array.toList_map, h2, List.take_left']
    · rfl
    · rfl
theorem foldl_push : ∀ (l : List UInt8) (b : ByteArray), ((l.map fun x => (x.toNat : Int)).foldl (fun r n => r.push (UInt8.ofNat n.toNat)) b).data.toList = b.data.toList ++ l
  | [], b => by simp
  | x :: l, b => by
    rw [List.map_cons, List.foldl_cons, foldl_push l]
    simp [ByteArray.push]
theorem conv_bytes_strT {src dst e : TypeId} (hs : P.underlying src = some (.slice e)) (hd : P.underlying dst = some .string) (he : P.underlying e = some (.int .u8)) {s : ByteArray} {a : Option Addr} {n c : Nat} {x : Operand} {Q : Value → Heap → Prop} (hx : ev er x = .slice a n c)
    (I : Row h a (strV s)) (hn : n = s.size) (H : Q (.string s) h) : opSem P (.convert src dst x) ty er h Q := by
  refine opSem_pure rfl _ H fun w hw => ?_
  subst hw
  have g1 := run_convert_bytes_string (P := P) w src dst e a n c hs he hd
  have g2 : (Conv.bytesToString (.slice a n c)).run P w = .ok (.string s) w := by
    cases a with
    | none =>
      have h0 : s.size = 0 := by
        rcases I with I | ⟨g, off, cur, ct, fr, h1, _⟩
        · rw [← strV_length, I]; rfl
        · cases h1
      have : s = ByteArray.empty := by
        apply ByteArray.ext
        apply Array.eq_empty_of_size_eq_zero
        exact h0
      subst this
      rfl
    | some a =>
      have hf := firstV (P := P) (w := w) (b := some a) (m := n) (c := c) (k := n) (s := 1) I (by rw [strV_length, hn, Nat.mul_one]) (Nat.le_refl _)
      have hl : (loadCells a n).run P w = .ok ((s.data.toList.map fun x => (x.toNat : Int)).map (Value.int .u8)).toArray w := by
        have e1 : (strV s).take (n * 1) = (s.data.toList.map fun x => (x.toNat : Int)).map (Value.int .u8) := by
          rw [List.take_of_length_le (by rw [strV_length]; omega), List.map_map]; rfl
        rw [e1] at hf
        simpa [Builtin.firstCells] using hf
      rw [run_bytesToString w a n c _ hl]
      congr 2
      apply ByteArray.ext
      apply Array.toList_inj.1
      rw [foldl_push]
      simp
  simp only [execOp, hx, Sem.run_bind, g1, g2, Result.andThen_ok, Sem.run_pure]
theorem conv_int_strT {src dst : TypeId} {k : IntKind} (hs : P.underlying src = some (.int k)) (hd : P.underlying dst = some .string) {n : Int} {q : IntKind} {x : Operand} {Q : Value → Heap → Prop} (hx : ev er x = .int q n)
    (H : Q (.string (Utf8.encode n)) h) : opSem P (.convert src dst x) ty er h Q := by
  refine opSem_pure rfl _ H fun w hw => ?_
  subst hw
  simp [execOp, hx, convert, run_underlying hs, run_underlying hd, Conv.intToString, Sem.run_pure]
theorem cvW_int_str {q q2 : IntKind} {n : Int} {F : Prop} {K : Value → Heap → Prop} : cvW (.int q n) (some .string) (some (.int q2)) F h K = F := by unfold cvW; rfl
end bytes
end Go.Eng
