/- Chapter 19: entries in memory; Table. -/
import Derived.Test.YthabfpagilbplaaDoorBi
import Derived.Test.YthabfpagilbplaaDoorTi
import Derived.Test.YthabfpagilbplaaDoorTcTables
set_option linter.unusedSimpArgs false
set_option linter.unusedVariables false
/- Chapter 19: entries in memory; Table. -/
namespace Go.Sy
open Go Go.RowKit
/-- An entry: its gloss, and its forms. -/
structure ED where
  g : Value
  p : Option Addr
  cap : Nat
  l : List FD
def ED.v (x : ED) : Value := slv x.p x.l.length x.cap
def ecells (l : List ED) : List Value := l.flatMap fun x => [x.g, x.v]
def EntriesAt (R : Mv) (q : Option Addr) (l : List ED) : Prop := Cells R q (ecells l) ∧ ∀ x ∈ l, FormsAt R x.p x.l
theorem EntriesAt.mono {R S : Mv} {q : Option Addr} {l : List ED} (h : EntriesAt R q l) (hle : R.le S) : EntriesAt S q l := ⟨h.1.mono hle, fun x hx => (h.2 x hx).mono hle⟩
section
variable {P : Program} {c : Cx} {L : List Nat} {ρ : Env} {blks : List Blk} {m : Mem} {R : Value → HW → Prop} {Dn : Nat → List U → HW → Prop} {A : List (List U → HW → Prop)}
end
end Go.Sy
namespace Go.Proofs.YthabfpagilbplaaDoor
open Go Go.Sy Go.RowKit
end Go.Proofs.YthabfpagilbplaaDoor
/- Chapter 19: Table. -/
namespace Go.Proofs.YthabfpagilbplaaDoor
open Go Go.Sy Go.RowKit
/-- Rows of numbers in memory of one's own, to be read. -/
structure TabI (m : Mem) (q : Option Addr) (cq : Nat) (rs : List IR) : Prop where
  row : rs ≠ [] → Row m 30 1 q cq rs.length (rs.map IR.v)
  rows : ∀ r ∈ rs, RowI m r.p r.cap r.l
  nil : q = none → cq = 0
  le : rs.length ≤ cq
theorem TabI.joinL {m mq : Mem} {q : Option Addr} {cq : Nat} {rs : List IR} (h : TabI m q cq rs) : TabI (m.join mq) q cq rs := ⟨fun hn => (h.row hn).keep fun g _ hg => join_old hg, fun r hr => (h.rows r hr).joinL, h.nil, h.le⟩
theorem TabI.joinR {m mq : Mem} {q : Option Addr} {cq : Nat} {rs : List IR} (h : TabI mq q cq rs) (hf : ∀ b, mq b ≠ none → m b = none) : TabI (m.join mq) q cq rs := ⟨fun hn => (h.row hn).keep fun g _ hg => join_new (hf g hg), fun r hr => (h.rows r hr).joinR hf, h.nil, h.le⟩
theorem TabI.empty (m : Mem) : TabI m none 0 [] := ⟨fun h => absurd rfl h, (by intro r hr; cases hr), fun _ => rfl, Nat.le_refl _⟩
theorem TabI.reads {m : Mem} {q : Option Addr} {cq : Nat} {rs : List IR} (h : TabI m q cq rs) {c : Cx} {L : List Nat} {ρ : Env} {blks : List Blk} (g : Go.Sy.Good c L m) : RowsAt (vw c L ρ blks m) q rs := by
  refine ⟨?_, fun r hr => (h.rows r hr).reads g⟩
  by_cases hl : rs = []
  · subst hl; intro i x hx; simp at hx
  · exact (h.row hl).reads g
end Go.Proofs.YthabfpagilbplaaDoor
/- Chapter 19: Table, walked. -/
namespace Go.Proofs.YthabfpagilbplaaDoor
open Go Go.Sy Go.RowKit
theorem RowI.keepA {m m' : Mem} {q qo : Option Addr} {cq co no kx : Nat} {l : List Int} {xo : List Value} (h : RowI m q cq l) (ho : Row m 30 1 qo co no xo) (hk : ∀ b, ((∃ o, qo = some ⟨b, o, none⟩) → co < no + kx) → m b ≠ none → m' b = m b) : RowI m' q cq l :=
  ⟨fun hl => (h.row hl).keepA ho (by decide) hk, h.nil, h.le⟩
end Go.Proofs.YthabfpagilbplaaDoor
/- Chapter 19: the reference's Table, and the law Tables. -/
namespace Go.Proofs.YthabfpagilbplaaDoor
open Go Go.Sy Go.RowKit
end Go.Proofs.YthabfpagilbplaaDoor
