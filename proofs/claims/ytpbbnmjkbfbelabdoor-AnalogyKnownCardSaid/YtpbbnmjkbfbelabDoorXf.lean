/- Chapter 18: Exact. -/
import Derived.Test.YtpbbnmjkbfbelabDoorXe
set_option linter.unusedSimpArgs false
set_option linter.unusedVariables false
namespace Go.Sy
open Go Go.RowKit
end Go.Sy
namespace Go.Proofs.YtpbbnmjkbfbelabDoor
open Go Go.Sy Go.RowKit
theorem PrV.le {fv : Value} {K : Mv → Prop} {l : List WD} {W : List (List Snd)} {cost : List Int → Int} (h : PrV fv K (fun col => col.length ≤ l.length ∧ EntOk W col) cost) (_ : W.length = l.length) : PrV fv K (fun col => col.length ≤ l.length ∧ EntOk W col) cost := h
end Go.Proofs.YtpbbnmjkbfbelabDoor
