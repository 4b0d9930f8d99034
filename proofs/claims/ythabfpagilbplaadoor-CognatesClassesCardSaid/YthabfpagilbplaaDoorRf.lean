/- Chapter 19: Table, walked. -/
import Derived.Test.YthabfpagilbplaaDoorRe
set_option linter.unusedSimpArgs false
set_option linter.unusedVariables false
namespace Go.Proofs.YthabfpagilbplaaDoor
open Go Go.Sy Go.RowKit
theorem elT : El Tryd.prog 60 30 1 24 := El.of (by kernel_rfl)
theorem RowI.keepA {m m' : Mem} {q qo : Option Addr} {cq co no kx : Nat} {l : List Int} {xo : List Value} (h : RowI m q cq l) (ho : Row m 30 1 qo co no xo) (hk : ∀ b, ((∃ o, qo = some ⟨b, o, none⟩) → co < no + kx) → m b ≠ none → m' b = m b) : RowI m' q cq l :=
  ⟨fun hl => (h.row hl).keepA ho (by decide) hk, h.nil, h.le⟩
end Go.Proofs.YthabfpagilbplaaDoor
