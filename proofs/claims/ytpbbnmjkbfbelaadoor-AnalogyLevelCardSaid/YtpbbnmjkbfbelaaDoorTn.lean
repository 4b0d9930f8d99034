/- Numbers of this seat's program. -/
import Derived.Test.YtpbbnmjkbfbelaaDoorSyDef
namespace Go.Proofs.YtpbbnmjkbfbelaaDoor
open Go
abbrev g_analogy_ending : Nat := 0
abbrev tg_analogy_ending : TypeId := 80
abbrev g_analogy_beginning : Nat := 1
abbrev tg_analogy_beginning : TypeId := 80
end Go.Proofs.YtpbbnmjkbfbelaaDoor
