/- Chapter 18: the reference's rows; the law of checks. -/
import Derived.Test.YtialbhieaipcgaaDoorYc
import Derived.Test.YtialbhieaipcgaaDoorTcChecks
set_option linter.unusedSimpArgs false
set_option linter.unusedVariables false
namespace Go.Sy
open Go Go.RowKit
theorem c3_fresh (ρ : Env) (L : List Nat) (a b d : Int) : SV.dens L (ρ ++ [.i a, .i b, .i d]) (Sh.freshs [.int .i64, .int .u32, .int .u32] ρ.length).1 = [.int .i64 a, .int .u32 b, .int .u32 d] := by
  have e0 := getElem_env ρ [.i a, .i b, .i d] 0
  have e1 := getElem_env ρ [.i a, .i b, .i d] 1
  have e2 := getElem_env ρ [.i a, .i b, .i d] 2
  simp only [Sh.fresh, Sh.freshs, SV.den, SV.dens, IT.eval, Env.int, Nat.add_assoc] at e0 e1 e2 ⊢
  rw [Nat.add_zero] at e0
  rw [e0, e1, e2]
  rfl
end Go.Sy
namespace Go.Proofs.YtialbhieaipcgaaDoor
open Go Go.Sy Go.RowKit
end Go.Proofs.YtialbhieaipcgaaDoor
