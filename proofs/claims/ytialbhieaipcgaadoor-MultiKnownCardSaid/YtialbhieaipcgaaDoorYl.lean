/- Chapter 18: the reference's Refine; the law of refined alignments. -/
import Derived.Test.YtialbhieaipcgaaDoorYk
import Derived.Test.YtialbhieaipcgaaDoorTcRefines
set_option linter.unusedSimpArgs false
set_option linter.unusedVariables false
namespace Go.Proofs.YtialbhieaipcgaaDoor
open Go Go.Sy Go.RowKit
theorem RowI.lit {m : Mem} {q : Option Addr} {cq b0 : Nat} {l : List Int} (h1 : l.length ≠ 0 → Row m 3 1 q cq l.length (intsL l)) (h0 : l.length = 0 → q = some ⟨b0, 0, none⟩ ∧ cq = 0) : RowI m q cq l := by
  rcases Nat.eq_zero_or_pos l.length with h | h
  · obtain ⟨rfl, rfl⟩ := h0 h
    exact ⟨fun hne => absurd (List.length_eq_zero_iff.1 h) hne, nofun, by omega⟩
  · exact RowI.of (h1 (by omega))
end Go.Proofs.YtialbhieaipcgaaDoor
