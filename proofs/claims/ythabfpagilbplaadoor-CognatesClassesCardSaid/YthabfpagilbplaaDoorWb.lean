/- What a law's arguments are, out of what they read as. -/
import Derived.Test.YthabfpagilbplaaDoorWa
import Derived.Lib.SmallJoins
import Derived.ChangeSlices
import Derived.Test.YthabfpagilbplaaDoorBa
set_option linter.unusedSimpArgs false
set_option linter.unusedVariables false
namespace Go.Proofs.YthabfpagilbplaaDoor
open Go Go.Sy Go.ChangeShapes Go.WideShapes Go.ChangeAt Go.WideElems Go.RowKit Go.Joins Go.Deep
section
variable {H : Type} {enc : TypeId × Value → H} {P : Program} {w : World} {base : Nat} {spare : Nat → Bool} {held : Bool}
theorem spot_none {w : World} {a : Addr} {v : Value} (h : w.cell? a = some v) : a.spot = none := by
  unfold World.cell? at h
  split at h
  · split at h
    · cases h
    · rename_i hs; simpa using hs
  · cases h
end
end Go.Proofs.YthabfpagilbplaaDoor
