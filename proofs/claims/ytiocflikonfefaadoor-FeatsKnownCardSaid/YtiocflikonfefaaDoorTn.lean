/- Numbers of this seat's program. -/
import Derived.Test.YtiocflikonfefaaDoorSyDef
namespace Go.Proofs.YtiocflikonfefaaDoor
open Go
abbrev g_math_bits_deBruijn32tab : Nat := 0
abbrev tg_math_bits_deBruijn32tab : TypeId := 71
end Go.Proofs.YtiocflikonfefaaDoor
