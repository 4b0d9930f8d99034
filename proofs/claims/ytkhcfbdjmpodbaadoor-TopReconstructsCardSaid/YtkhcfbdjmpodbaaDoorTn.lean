/- Numbers of this seat's program. -/
import Derived.Test.YtkhcfbdjmpodbaaDoorSyDef
namespace Go.Proofs.YtkhcfbdjmpodbaaDoor
open Go
abbrev g_multi_steps : Nat := 0
abbrev g_math_bits_deBruijn32tab : Nat := 1
abbrev tg_math_bits_deBruijn32tab : TypeId := 154
end Go.Proofs.YtkhcfbdjmpodbaaDoor
