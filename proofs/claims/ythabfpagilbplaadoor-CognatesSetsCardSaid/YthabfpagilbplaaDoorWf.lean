/- Chapter 19: arguments. -/
import Derived.Test.YthabfpagilbplaaDoorRa
import Derived.Test.YthabfpagilbplaaDoorWd
set_option linter.unusedSimpArgs false
set_option linter.unusedVariables false
namespace Go.Proofs.YthabfpagilbplaaDoor
open Go Go.Sy Go.ChangeShapes Go.WideShapes Go.ChangeAt Go.WideElems Go.RowKit Go.Joins Go.Deep
section
variable {H : Type} {enc : TypeId × Value → H} {P : Program} {w : World} {base : Nat} {spare : Nat → Bool} {held : Bool}
end
theorem len62 {n : Nat} (h : n ≤ maxLen) : n < 2 ^ 63 := by unfold maxLen at h; omega
theorem cellsI {V : Mv} {p : Option Addr} {l : List Int} (h : Cells V p (l.flatMap fun x => [.int .i64 x])) : Cells V p (intsL l) := cells_map1 h
end Go.Proofs.YthabfpagilbplaaDoor
