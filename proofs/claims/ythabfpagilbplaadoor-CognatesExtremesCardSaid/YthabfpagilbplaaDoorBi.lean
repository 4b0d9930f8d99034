/- Chapter 19: the laws Compares and Labels. -/
import Derived.Test.YthabfpagilbplaaDoorBh
import Derived.Test.YthabfpagilbplaaDoorTcCompares
import Derived.Test.YthabfpagilbplaaDoorTcLabels
import Derived.Test.YthabfpagilbplaaDoorTcShares
import Derived.Test.YthabfpagilbplaaDoorTh
set_option linter.unusedSimpArgs false
set_option linter.unusedVariables false
/- Chapter 19: the laws Compares and Labels. -/
namespace Go.Proofs.YthabfpagilbplaaDoor
open Go Go.Sy Go.RowKit
end Go.Proofs.YthabfpagilbplaaDoor
/- Chapter 19: the law Shares. -/
namespace Go.Proofs.YthabfpagilbplaaDoor
open Go Go.Sy Go.RowKit
/-- A row of numbers as an argument. -/
structure IR where
  p : Option Addr
  cap : Nat
  l : List Int
def IR.v (r : IR) : Value := slv r.p r.l.length r.cap
def RowsAt (R : Mv) (q : Option Addr) (rs : List IR) : Prop := Cells R q (rs.map IR.v) ∧ ∀ r ∈ rs, Cells R r.p (intsL r.l)
theorem RowsAt.mono {R S : Mv} {q : Option Addr} {rs : List IR} (h : RowsAt R q rs) (hle : R.le S) : RowsAt S q rs := ⟨h.1.mono hle, fun r hr => (h.2 r hr).mono hle⟩
end Go.Proofs.YthabfpagilbplaaDoor
/- Chapter 19: lists of lists compared. -/
namespace Go.Proofs.YthabfpagilbplaaDoor
open Go Go.Sy Go.RowKit
end Go.Proofs.YthabfpagilbplaaDoor
