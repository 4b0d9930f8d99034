/- Chapter 18: the cells of all columns; the reference's cells and rows. -/
import Derived.Test.YtialbhieaipcgaaDoorYb
set_option linter.unusedSimpArgs false
set_option linter.unusedVariables false
namespace Go.Proofs.YtialbhieaipcgaaDoor
open Go Go.Sy Go.RowKit
/-- A row that is new since an earlier memory. -/
def NewQ (m : Mem) (q : Option Addr) : Prop := ∀ g o, q = some ⟨g, o, none⟩ → m g = none
theorem NewQ.next {m m2 : Mem} {q q' : Option Addr} (h : NewQ m q) (hle : m.le m2) (hq : q' = q ∨ ∃ g, q' = some ⟨g, 0, none⟩ ∧ m2 g = none) : NewQ m q' := fun g o e => by
  rcases hq with rfl | ⟨g', e', hg⟩
  · exact h g o e
  · rw [e'] at e; cases e
    cases hm : m g with
    | none => rfl
    | some x => rw [hle g x hm] at hg; cases hg
end Go.Proofs.YtialbhieaipcgaaDoor
