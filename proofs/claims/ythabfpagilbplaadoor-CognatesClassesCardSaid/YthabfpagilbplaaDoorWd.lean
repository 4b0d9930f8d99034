/- A pair of words with costs, as an argument. -/
import Derived.Test.YthabfpagilbplaaDoorWc
set_option linter.unusedSimpArgs false
set_option linter.unusedVariables false
namespace Go.Proofs.YthabfpagilbplaaDoor
open Go Go.Sy Go.ChangeShapes Go.WideShapes Go.ChangeAt Go.WideElems Go.RowKit Go.Joins Go.Deep
section
variable {H : Type} {enc : TypeId × Value → H} {P : Program} {w : World} {base : Nat} {spare : Nat → Bool} {held : Bool}
/-- Costs. -/
structure CS where
  p : Option Addr
  cap : Nat
  l : List Int
  gap : Int
end
end Go.Proofs.YthabfpagilbplaaDoor
