/- What a law's arguments are, out of what they read as. -/
import Derived.Test.YtpbbnmjkbfbelabDoorWa
import Derived.Lib.SmallJoins
import Derived.ChangeSlices
import Derived.Test.YtpbbnmjkbfbelabDoorBa
set_option linter.unusedSimpArgs false
set_option linter.unusedVariables false
namespace Go.Proofs.YtpbbnmjkbfbelabDoor
open Go Go.Sy Go.ChangeShapes Go.WideShapes Go.ChangeAt Go.WideElems Go.RowKit Go.Joins Go.Deep
section
variable {H : Type} {enc : TypeId × Value → H} {P : Program} {w : World} {base : Nat} {spare : Nat → Bool} {held : Bool}
end
end Go.Proofs.YtpbbnmjkbfbelabDoor
