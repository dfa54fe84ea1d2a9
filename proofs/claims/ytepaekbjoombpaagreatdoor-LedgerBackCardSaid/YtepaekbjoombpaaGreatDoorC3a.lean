/- Appends to a slice that is empty. -/
import Derived.Test.YtepaekbjoombpaaGreatDoorC2
import Derived.Test.YtepaekbjoombpaaGreatDoorEngK
namespace Go.Proofs.YtepaekbjoombpaaGreatDoor
open Go Go.Proofs Go.Eng Go.Run Tab
set_option maxRecDepth 100000
set_option linter.unusedSimpArgs false
set_option linter.unusedVariables false
set_option maxHeartbeats 2000000
theorem apf22 {h : Eng.Heap} {er : Env} {ty : TypeId} {x y : Operand} {g : Nat} {b : Option Addr} {m c : Nat} {ys : List En} {K : Value → Eng.Heap → Prop} (hx : ev er x = .slice (some ⟨g, 0, none⟩) 0 0) (hy : ev er y = .slice b m c) (q2 : h[g]? = some (.cells #[] 26)) (I : Row h b (ensV ys)) (hm : ys.length = m) (hb : m ≤ 1000)
    (H : ∀ a' cap' h', OwnV g h' 26 4 a' m cap' (ensV ys) → Ext h h' → K (.slice a' m cap') h') : opSem Tryz.prog (.call ⟨.builtin .append, #[x, y], #[22, 22]⟩) ty er h K :=
  append_freshT Tryz.underlying22 Tryz.underlying22 inf26 sz26 zero26 (by rfl) hx hy q2 I (by rw [ensV_length, hm]) (fun u hu => by
    simp only [ensV, List.mem_flatMap, enV] at hu
    obtain ⟨e, _, hu⟩ := hu
    simp at hu
    rcases hu with rfl | rfl | rfl | rfl <;> rfl) (by omega) (by rw [by26]; omega) H
end Go.Proofs.YtepaekbjoombpaaGreatDoor
