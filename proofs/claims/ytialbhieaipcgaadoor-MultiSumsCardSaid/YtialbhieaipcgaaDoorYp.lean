/- Chapter 18: a refined alignment is not dearer, and cannot be refined. -/
import Derived.Test.YtialbhieaipcgaaDoorYm
import Derived.Test.YtialbhieaipcgaaDoorTcRefined
set_option linter.unusedSimpArgs false
set_option linter.unusedVariables false
namespace Go.Sy
open Go Go.RowKit
section
variable {ws : List Int} {gap : Int} {W : List (List Snd)}
end
theorem withoutE_ok {W : List (List Snd)} {cols : List (List Int)} {k : Nat} (h : checkA W cols = 0) (hk : k < W.length) : withoutE W cols k = (withoutS cols k, 0) := by
  unfold withoutE; rw [if_neg (by simp [h]), if_neg (by omega), Int.toNat_natCast]
end Go.Sy
namespace Go.Proofs.YtialbhieaipcgaaDoor
open Go Go.Sy Go.RowKit
end Go.Proofs.YtialbhieaipcgaaDoor
