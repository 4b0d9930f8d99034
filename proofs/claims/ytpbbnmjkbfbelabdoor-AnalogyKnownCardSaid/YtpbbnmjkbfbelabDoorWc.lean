/- What a law's arguments are: slices of anything, words, lists of words, pairs. -/
import Derived.Test.YtpbbnmjkbfbelabDoorWb
import Derived.Test.YtpbbnmjkbfbelabDoorBe
import Derived.Deep.Slices
set_option linter.unusedSimpArgs false
set_option linter.unusedVariables false
namespace Go.Proofs.YtpbbnmjkbfbelabDoor
open Go Go.Sy Go.ChangeShapes Go.WideShapes Go.ChangeAt Go.WideElems Go.RowKit Go.Joins Go.Deep
section
variable {H : Type} {enc : TypeId × Value → H} {P : Program} {w : World} {base : Nat} {spare : Nat → Bool} {held : Bool}
structure SL (α : Type) where
  p : Option Addr
  cap : Nat
  l : List α
def SL.v {α : Type} (s : SL α) : Value := slv s.p s.l.length s.cap
/-! Elements. -/
instance {α : Type} : Inhabited (SL α) := ⟨⟨none, 0, []⟩⟩
end
end Go.Proofs.YtpbbnmjkbfbelabDoor
