/- Chapter 19: Table. -/
import Derived.Test.YthabfpagilbplaaDoorRd
set_option linter.unusedSimpArgs false
set_option linter.unusedVariables false
namespace Go.Proofs.YthabfpagilbplaaDoor
open Go Go.Sy Go.RowKit
/-- Rows of numbers in memory of one's own, to be read. -/
structure TabI (m : Mem) (q : Option Addr) (cq : Nat) (rs : List IR) : Prop where
  row : rs ≠ [] → Row m 30 1 q cq rs.length (rs.map IR.v)
  rows : ∀ r ∈ rs, RowI m r.p r.cap r.l
  nil : q = none → cq = 0
  le : rs.length ≤ cq
theorem TabI.joinL {m mq : Mem} {q : Option Addr} {cq : Nat} {rs : List IR} (h : TabI m q cq rs) : TabI (m.join mq) q cq rs := ⟨fun hn => (h.row hn).keep fun g _ hg => join_old hg, fun r hr => (h.rows r hr).joinL, h.nil, h.le⟩
theorem TabI.joinR {m mq : Mem} {q : Option Addr} {cq : Nat} {rs : List IR} (h : TabI mq q cq rs) (hf : ∀ b, mq b ≠ none → m b = none) : TabI (m.join mq) q cq rs := ⟨fun hn => (h.row hn).keep fun g _ hg => join_new (hf g hg), fun r hr => (h.rows r hr).joinR hf, h.nil, h.le⟩
theorem TabI.empty (m : Mem) : TabI m none 0 [] := ⟨fun h => absurd rfl h, (by intro r hr; cases hr), fun _ => rfl, Nat.le_refl _⟩
theorem TabI.reads {m : Mem} {q : Option Addr} {cq : Nat} {rs : List IR} (h : TabI m q cq rs) {c : Cx} {L : List Nat} {ρ : Env} {blks : List Blk} (g : Go.Sy.Good c L m) : RowsAt (vw c L ρ blks m) q rs := by
  refine ⟨?_, fun r hr => (h.rows r hr).reads g⟩
  by_cases hl : rs = []
  · subst hl; intro i x hx; simp at hx
  · exact (h.row hl).reads g
end Go.Proofs.YthabfpagilbplaaDoor
