/- Numbers of this seat's program. -/
import Derived.Test.YtpbbnmjkbfbelaaGreatDoorSyDef
namespace Go.Proofs.YtpbbnmjkbfbelaaGreatDoor
open Go
abbrev g_analogy_ending : Nat := 0
abbrev g_analogy_beginning : Nat := 1
abbrev g_multi_steps : Nat := 2
abbrev g_math_bits_deBruijn32tab : Nat := 3
abbrev tg_math_bits_deBruijn32tab : TypeId := 149
end Go.Proofs.YtpbbnmjkbfbelaaGreatDoor
