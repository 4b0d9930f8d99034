/- Numbers of this seat's program. -/
import Derived.Test.YtpbbnmjkbfbelabDoorSyDef
namespace Go.Proofs.YtpbbnmjkbfbelabDoor
open Go
abbrev g_analogy_ending : Nat := 0
abbrev g_analogy_beginning : Nat := 1
abbrev g_multi_steps : Nat := 2
abbrev g_math_bits_deBruijn32tab : Nat := 3
abbrev tg_math_bits_deBruijn32tab : TypeId := 138
end Go.Proofs.YtpbbnmjkbfbelabDoor
