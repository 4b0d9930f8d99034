/- append beside a read of another block. -/
import Derived.Test.YthabfpagilbplaaDoorBj
import Derived.Test.YthabfpagilbplaaDoorTcSets
import Derived.Test.YthabfpagilbplaaDoorTj
import Derived.Test.YthabfpagilbplaaDoorTcClasses
set_option linter.unusedSimpArgs false
set_option linter.unusedVariables false
/- append beside a read of another block. -/
namespace Go.Sy
open Go Go.RowKit
section
variable {P : Program} {c : Cx} {L : List Nat} {ρ : Env} {blks : List Blk} {m : Mem} {R : Value → HW → Prop} {Dn : Nat → List U → HW → Prop} {A : List (List U → HW → Prop)}
end
end Go.Sy
/- The sets of labels, plainly; tables whose rows grow. -/
namespace Go.Sy
open Go Go.RowKit
/-- A row is appended. -/
theorem Tab.push {m m' : Mem} {eo ei : TypeId} {kd : IntKind} {q q' : Option Addr} {cap cap' : Nat} {rs : List RD} (h : Tab m eo ei kd q cap rs) {r : RD} (hr : Row m ei 1 r.p r.cap r.v.length (r.v.map (.int kd))) (hap : ∀ x ∈ rs, ∀ b, x.p = some ⟨b, 0, none⟩ → r.p ≠ some ⟨b, 0, none⟩)
    (ho : Row m' eo 1 q' cap' (rs.length + 1) (rs.map RD.s ++ [r.s])) (hk : ∀ b, ((∃ o, q = some ⟨b, o, none⟩) → cap < rs.length + 1) → m b ≠ none → m' b = m b) : Tab m' eo ei kd q' cap' (rs ++ [r]) := by
  refine ⟨by rw [List.length_append, List.map_append]; exact ho, fun x hx => ?_, fun i k hi hk b hne hp => ?_, h.ne⟩
  · have hR : Row m ei 1 x.p x.cap x.v.length (x.v.map (.int kd)) := by
      rcases List.mem_append.1 hx with hx | hx
      · exact h.inn x hx
      · simp at hx; subst hx; exact hr
    exact hR.keepA h.out (fun e => h.ne e.symm) hk
  · rw [List.length_append, List.length_cons, List.length_nil] at hi hk
    rw [List.getElem_append] at hp ⊢
    split at hp
    · rename_i hi'
      split
      · exact h.apart i k hi' (by assumption) b hne hp
      · simpa using hap _ (List.getElem_mem hi') b hp
    · split
      · rename_i hk'
        intro h2
        exact hap _ (List.getElem_mem hk') b h2 (by simpa using hp)
      · omega
end Go.Sy
namespace Go.Proofs.YthabfpagilbplaaDoor
open Go Go.Sy Go.RowKit
end Go.Proofs.YthabfpagilbplaaDoor
/- Chapter 19: Sets, walked; the law Sets. -/
namespace Go.Proofs.YthabfpagilbplaaDoor
open Go Go.Sy Go.RowKit
end Go.Proofs.YthabfpagilbplaaDoor
/- Chapter 19: the law Classes. -/
namespace Go.Proofs.YthabfpagilbplaaDoor
open Go Go.Sy Go.RowKit
/-! What the sets are. -/
end Go.Proofs.YthabfpagilbplaaDoor
/- Chapter 19: the law Classes, walked. -/
namespace Go.Sy
open Go Go.RowKit
section
variable {P : Program} {c : Cx} {L : List Nat} {ρ : Env} {blks : List Blk} {m : Mem} {R : Value → HW → Prop} {Dn : Nat → List U → HW → Prop} {A : List (List U → HW → Prop)}
end
end Go.Sy
namespace Go.Proofs.YthabfpagilbplaaDoor
open Go Go.Sy Go.RowKit
end Go.Proofs.YthabfpagilbplaaDoor
