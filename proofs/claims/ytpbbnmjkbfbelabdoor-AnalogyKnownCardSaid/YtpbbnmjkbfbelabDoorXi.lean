/- Chapter 18: no alignment is cheaper than the one chosen; plain law. -/
import Derived.Test.YtpbbnmjkbfbelabDoorXf
set_option linter.unusedSimpArgs false
set_option linter.unusedVariables false
namespace Go.Sy
open Go Go.RowKit
def FromX (W : List (List Snd)) (p : P3) (cols : List (List Int)) : Prop := (∀ col ∈ cols, col.length = W.length ∧ ∃ x ∈ col, x ≠ -1) ∧ ∀ k, k < W.length → rowGo (at3 p k : Nat) (rowOf cols k) = some (wl W k)
theorem at3_p0 (k : Nat) : at3 p0 k = 0 := by
  match k with
  | 0 => rfl
  | 1 => rfl
  | _ + 2 => rfl
theorem FromX.of {W : List (List Snd)} {cols : List (List Int)} (h : isAl W cols = true) : FromX W p0 cols := by
  obtain ⟨h1, h2⟩ := isAl_of h
  exact ⟨h1, fun k hk => by rw [at3_p0]; exact h2 k hk⟩
end Go.Sy
