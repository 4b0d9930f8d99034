/- Chapter 18: Add. -/
import Derived.Test.YtialbhieaipcgaaDoorYl
set_option linter.unusedSimpArgs false
set_option linter.unusedVariables false
namespace Go.Sy
open Go Go.RowKit
section
variable {ws : List Int} {gap : Int} {W : List (List Snd)} {cols : List (List Int)} {w : List Snd}
end
end Go.Sy
namespace Go.Proofs.YtialbhieaipcgaaDoor
open Go Go.Sy Go.RowKit
theorem elW : El Tryd.prog 22 46 1 24 := El.of (by kernel_rfl)
theorem wv_one (l : List WD) : ∀ u ∈ l.map WD.v, u.oneCell' = true := fun u hu => by
  obtain ⟨x, _, rfl⟩ := List.mem_map.1 hu
  simp [WD.v, slv, Value.oneCell']
end Go.Proofs.YtialbhieaipcgaaDoor
