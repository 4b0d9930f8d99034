/- Chapter 19: entries in memory; Table. -/
import Derived.Test.YthabfpagilbplaaDoorRc
import Derived.Test.YthabfpagilbplaaDoorTi
set_option linter.unusedSimpArgs false
set_option linter.unusedVariables false
namespace Go.Sy
open Go Go.RowKit
/-- An entry: its gloss, and its forms. -/
structure ED where
  g : Value
  p : Option Addr
  cap : Nat
  l : List FD
def ED.v (x : ED) : Value := slv x.p x.l.length x.cap
def ecells (l : List ED) : List Value := l.flatMap fun x => [x.g, x.v]
def EntriesAt (R : Mv) (q : Option Addr) (l : List ED) : Prop := Cells R q (ecells l) ∧ ∀ x ∈ l, FormsAt R x.p x.l
theorem EntriesAt.mono {R S : Mv} {q : Option Addr} {l : List ED} (h : EntriesAt R q l) (hle : R.le S) : EntriesAt S q l := ⟨h.1.mono hle, fun x hx => (h.2 x hx).mono hle⟩
section
variable {P : Program} {c : Cx} {L : List Nat} {ρ : Env} {blks : List Blk} {m : Mem} {R : Value → HW → Prop} {Dn : Nat → List U → HW → Prop} {A : List (List U → HW → Prop)}
end
end Go.Sy
namespace Go.Proofs.YthabfpagilbplaaDoor
open Go Go.Sy Go.RowKit
end Go.Proofs.YthabfpagilbplaaDoor
