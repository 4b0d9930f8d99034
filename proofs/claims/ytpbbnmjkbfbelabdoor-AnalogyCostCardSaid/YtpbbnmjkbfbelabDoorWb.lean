/- What a law's arguments are, out of what they read as. -/
import Derived.Test.YtpbbnmjkbfbelabDoorWa
import Derived.Lib.SmallJoins
import Derived.ChangeSlices
import Derived.Test.YtpbbnmjkbfbelabDoorBa
set_option linter.unusedSimpArgs false
set_option linter.unusedVariables false
namespace Go.Proofs.YtpbbnmjkbfbelabDoor
open Go Go.Sy Go.ChangeShapes Go.WideShapes Go.ChangeAt Go.WideElems Go.RowKit Go.Joins Go.Deep
section
variable {H : Type} {enc : TypeId × Value → H} {P : Program} {w : World} {base : Nat} {spare : Nat → Bool} {held : Bool}
theorem nat_of_wf32 {n : Int} (h : (Lit.int .u32 n).wf = true) : ∃ m : Nat, n = (m : Int) ∧ m < 2 ^ 32 := by
  simp only [Lit.wf, Bool.and_eq_true, decide_eq_true_eq] at h
  have h1 := h.1
  have h2 := h.2
  have h1' : (0 : Int) ≤ n := h1
  have h2' : n ≤ 4294967295 := h2
  exact ⟨n.toNat, by omega, by omega⟩
theorem spot_none {w : World} {a : Addr} {v : Value} (h : w.cell? a = some v) : a.spot = none := by
  unfold World.cell? at h
  split at h
  · split at h
    · cases h
    · rename_i hs; simpa using hs
  · cases h
end
end Go.Proofs.YtpbbnmjkbfbelabDoor
