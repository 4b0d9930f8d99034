/- Chapter 19: judgements turned, plainly. -/
import Derived.Test.YthabfpagilbplaaDoorRu
set_option linter.unusedSimpArgs false
set_option linter.unusedVariables false
namespace Go.Proofs.YthabfpagilbplaaDoor
open Go Go.Sy Go.RowKit
theorem prC_map_le {α β : Type} [DecidableEq α] [DecidableEq β] (f : α → β) (l : List α) : prC l ≤ prC (l.map f) := by
  induction l with
  | nil => exact Nat.le_refl _
  | cons x l ih =>
    rw [List.map_cons, prC, prC]
    have := cnt_map_le f x l
    omega
theorem lowest_self {n : Nat} (h : 0 < n) : lowest (n : Int) (n : Int) = (1, 1) := by
  rw [lowest_nat, Nat.gcd_self, Nat.div_self h]; rfl
theorem lowest_mul {n d : Nat} (hd : 0 < d) : lowest ((n * d : Nat) : Int) (d : Int) = ((n : Int), 1) := by
  rw [lowest_nat, Nat.gcd_mul_left_left, Nat.mul_div_cancel _ hd, Nat.div_self hd]; rfl
/-! Judgements. -/
def turnI (m : Int) (x : Int) : Int := (7 - x) * 5 + m
def turnG (m : Int) (x : Int) : Int := if 0 ≤ x then turnI m x else x
/-- What a measure of judgements has. -/
structure Jd (E : List Int → List Int → ((Int × Int) × (Int × Int)) × Int) : Prop where
  turn : ∀ a b : List Int, a.length ≤ 256 → b.length = a.length → (∀ x ∈ a, -1 ≤ x) → (∀ x ∈ b, -1 ≤ x) → E b a = (((E a b).1.2, (E a b).1.1), 0) ∧ (E a b).2 = 0
  ren : ∀ (m : Int) (a b : List Int), 0 ≤ m → a.length ≤ 256 → b.length = a.length → (∀ x ∈ a, -1 ≤ x ∧ x ≤ 7) → (∀ x ∈ b, -1 ≤ x) → E (a.map (turnG m)) b = E a b
  self : ∀ a : List Int, a.length ≤ 256 → (∀ x ∈ a, -1 ≤ x) → E a a = (((1, 1), (1, 1)), 0)
  none : ∀ a : List Int, a.length ≤ 256 → (∀ x ∈ a, -1 ≤ x) → E a (List.replicate a.length (-1)) = (((1, 1), (1, 1)), 0)
  small : ∀ a b : List Int, a.length ≤ 256 → b.length = a.length → (∀ x ∈ a, -1 ≤ x) → (∀ x ∈ b, -1 ≤ x) → (1 ≤ (E a b).1.1.2 ∧ 0 ≤ (E a b).1.1.1 ∧ (E a b).1.1.1 ≤ (E a b).1.1.2) ∧ 1 ≤ (E a b).1.2.2 ∧ 0 ≤ (E a b).1.2.1 ∧ (E a b).1.2.1 ≤ (E a b).1.2.2
theorem wrong_zero {a b : List Int} (h1 : a.length ≤ 256) (h2 : b.length = a.length) (h3 : ∀ x ∈ a, -1 ≤ x) (h4 : ∀ x ∈ b, -1 ≤ x) : wrongW a b = 0 := by
  have l1 : a.any lowB = false := List.any_eq_false.2 fun x hx => by unfold lowB; have := h3 x hx; simp; omega
  have l2 : b.any lowB = false := List.any_eq_false.2 fun x hx => by unfold lowB; have := h4 x hx; simp; omega
  unfold wrongW
  rw [if_neg (by omega), if_neg (by rw [l1, l2]; simp; omega)]
theorem compareE_ok {a b : List Int} (h : wrongW a b = 0) : compareE a b = ((shareW (prC (valV a b a.length) : Nat) (prC ((valV a b a.length).map (·.1)) : Nat), shareW (prC (valV a b a.length) : Nat) (prC ((valV a b a.length).map (·.2)) : Nat)), 0) := by
  unfold compareE; rw [if_neg (by simp [h])]
theorem cubedE_ok {a b : List Int} (h : wrongW a b = 0) : cubedE a b = ((cubP (·.1) (valV a b a.length), cubP (·.2) (valV a b a.length)), 0) := by
  unfold cubedE; rw [if_neg (by simp [h])]
end Go.Proofs.YthabfpagilbplaaDoor
