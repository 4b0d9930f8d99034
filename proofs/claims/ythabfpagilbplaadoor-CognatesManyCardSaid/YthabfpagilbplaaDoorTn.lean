/- Numbers of this seat's program. -/
import Derived.Test.YthabfpagilbplaaDoorSyDef
namespace Go.Proofs.YthabfpagilbplaaDoor
open Go
abbrev g_math_bits_deBruijn32tab : Nat := 0
abbrev tg_math_bits_deBruijn32tab : TypeId := 172
end Go.Proofs.YthabfpagilbplaaDoor
