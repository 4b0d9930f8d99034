/- The contracts of the functions of feats and of its reference that have no loop or answer a number. -/
import Derived.Test.YtedfogpnmpmggaaDoorPb
import Derived.Test.YtedfogpnmpmggaaDoorTa
set_option linter.unusedSimpArgs false
set_option linter.unusedVariables false
namespace Go.Proofs.YtedfogpnmpmggaaDoor
open Go Go.Sy Go.RowKit
theorem mx : Tryd.prog.follows .mixedOrders = true := by kernel_rfl
theorem c_valid (s : Snd) (h : Sok s) : Ret Tryd.prog n_feats_Valid [snd s] (.bool (valid s)) :=
  Fn.of S_feats_Valid mx [.i s.1, .i s.2] rfl rfl fun c _ => .alloc fun _ => .ret rfl (by
    show Value.bool (bif (ar .and .u32 (s.1 : Int) s.2 == 0) then decide (ar .or .u32 (s.1 : Int) s.2 ≤ 16777215) else false) = _
    rw [ar_and _ _ h.1 h.2, ar_or _ _ h.1 h.2, valid]
    congr 1
    cases h : (s.1 &&& s.2 == 0) <;> simp_all <;> omega)
end Go.Proofs.YtedfogpnmpmggaaDoor
