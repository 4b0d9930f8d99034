/- Numbers of this seat's program. -/
import Derived.Test.YtedfogpnmpmggaaDoorSyDef
namespace Go.Proofs.YtedfogpnmpmggaaDoor
open Go
abbrev g_math_bits_deBruijn32tab : Nat := 0
abbrev tg_math_bits_deBruijn32tab : TypeId := 110
end Go.Proofs.YtedfogpnmpmggaaDoor
