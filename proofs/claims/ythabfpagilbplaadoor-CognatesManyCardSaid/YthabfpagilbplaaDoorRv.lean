/- Chapter 19: judgements turned, plainly. -/
import Derived.Test.YthabfpagilbplaaDoorRu
set_option linter.unusedSimpArgs false
set_option linter.unusedVariables false
namespace Go.Proofs.YthabfpagilbplaaDoor
open Go Go.Sy Go.RowKit
/-! Judgements. -/
def turnI (m : Int) (x : Int) : Int := (7 - x) * 5 + m
def turnG (m : Int) (x : Int) : Int := if 0 ≤ x then turnI m x else x
structure Jd (E : List Int → List Int → ((Int × Int) × (Int × Int)) × Int) : Prop where
  turn : ∀ a b : List Int, a.length ≤ 256 → b.length = a.length → (∀ x ∈ a, -1 ≤ x) → (∀ x ∈ b, -1 ≤ x) → E b a = (((E a b).1.2, (E a b).1.1), 0) ∧ (E a b).2 = 0
  ren : ∀ (m : Int) (a b : List Int), 0 ≤ m → a.length ≤ 256 → b.length = a.length → (∀ x ∈ a, -1 ≤ x ∧ x ≤ 7) → (∀ x ∈ b, -1 ≤ x) → E (a.map (turnG m)) b = E a b
  self : ∀ a : List Int, a.length ≤ 256 → (∀ x ∈ a, -1 ≤ x) → E a a = (((1, 1), (1, 1)), 0)
  none : ∀ a : List Int, a.length ≤ 256 → (∀ x ∈ a, -1 ≤ x) → E a (List.replicate a.length (-1)) = (((1, 1), (1, 1)), 0)
  small : ∀ a b : List Int, a.length ≤ 256 → b.length = a.length → (∀ x ∈ a, -1 ≤ x) → (∀ x ∈ b, -1 ≤ x) → (1 ≤ (E a b).1.1.2 ∧ 0 ≤ (E a b).1.1.1 ∧ (E a b).1.1.1 ≤ (E a b).1.1.2) ∧ 1 ≤ (E a b).1.2.2 ∧ 0 ≤ (E a b).1.2.1 ∧ (E a b).1.2.1 ≤ (E a b).1.2.2
end Go.Proofs.YthabfpagilbplaaDoor
