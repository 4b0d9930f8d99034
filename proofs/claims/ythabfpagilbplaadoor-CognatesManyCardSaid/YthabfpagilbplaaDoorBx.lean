/- Chapter 19: arguments. -/
import Derived.Test.YthabfpagilbplaaDoorBi
import Derived.Test.YthabfpagilbplaaDoorBw
import Derived.Test.YthabfpagilbplaaDoorBl
set_option linter.unusedSimpArgs false
set_option linter.unusedVariables false
/- Chapter 19: arguments. -/
namespace Go.Proofs.YthabfpagilbplaaDoor
open Go Go.Sy Go.ChangeShapes Go.WideShapes Go.ChangeAt Go.WideElems Go.RowKit Go.Joins Go.Deep
section
variable {H : Type} {enc : TypeId × Value → H} {P : Program} {w : World} {base : Nat} {spare : Nat → Bool} {held : Bool}
end
end Go.Proofs.YthabfpagilbplaaDoor
/- Chapter 19: rows of numbers as arguments. -/
namespace Go.Proofs.YthabfpagilbplaaDoor
open Go Go.Sy Go.ChangeShapes Go.WideShapes Go.ChangeAt Go.WideElems Go.RowKit Go.Joins Go.Deep
end Go.Proofs.YthabfpagilbplaaDoor
/- Chapter 19: small numbers as arguments. -/
namespace Go.Proofs.YthabfpagilbplaaDoor
open Go Go.Sy Go.ChangeShapes Go.WideShapes Go.ChangeAt Go.WideElems Go.RowKit Go.Joins Go.Deep
theorem wf8 {n : Int} (h : (Lit.int .u8 n).wf = true) : 0 ≤ n ∧ n < 256 := by
  simp only [Lit.wf, Bool.and_eq_true, decide_eq_true_eq] at h
  have h1 : (0 : Int) ≤ n := h.1
  have h2 : n ≤ 255 := h.2
  omega
end Go.Proofs.YthabfpagilbplaaDoor
/- Chapter 19: rows of small numbers, and four small numbers, as arguments. -/
namespace Go.Proofs.YthabfpagilbplaaDoor
open Go Go.Sy Go.ChangeShapes Go.WideShapes Go.ChangeAt Go.WideElems Go.RowKit Go.Joins Go.Deep
section
variable {H : Type} {enc : TypeId × Value → H} {P : Program} {w : World} {base : Nat} {spare : Nat → Bool} {held : Bool}
end
end Go.Proofs.YthabfpagilbplaaDoor
