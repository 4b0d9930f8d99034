/-
  DERIVED. GIVEN WITH THE SEED: THE PROGRAM's TIES (one call each: nine closed facts by the kernel) AND EACH ROW's TIE, after the 31st guide's Derived/Test/Toyas{Tie, Card}.lean. No idea stands in it: it is a product of the set-up. Laid BY PROGRAM, IN A SANDBOX (cutbox-door.mjs). By AI agents, Wed Nov 11 2026. No macro, syntax, notation, axiom, sorry.
-/
import Derived.Test.YtpbbnmjkbfbelabDoorRows
import Derived.LaidByTextLater
import Derived.SevenTiedAt
import Derived.LaidSub
import Derived.LaidOnce
namespace Go.Proofs.YtpbbnmjkbfbelabDoor
open Go
set_option maxRecDepth 100000
theorem seatTie1 : Tryd.prog.laidByTextLater [("math/bits.deBruijn32tab", Rows.laid_math_bits_deBruijn32tab), ("ablaut/multi.steps", Rows.laid_ablaut_multi_steps), ("ablaut/analogy.ending", Rows.laid_ablaut_analogy_ending), ("ablaut/analogy.beginning", Rows.laid_ablaut_analogy_beginning)] [.data, .funcs, .funcs, .funcs] true :=
  Program.laidByTextLater_by_one 32 8 33 (by kernel_rfl) (by kernel_rfl) (by kernel_rfl) (by kernel_rfl) (by kernel_rfl) (by kernel_rfl) (fun _ _ => by kernel_rfl)
theorem noOwnUnsafe : Tryd.pinned.checked.prog.headLifts.contains "ownunsafe" = false := by kernel_rfl
theorem tie : Tryd.prog.laidByTextLater [("math/bits.deBruijn32tab", Rows.laid_math_bits_deBruijn32tab), ("ablaut/multi.steps", Rows.laid_ablaut_multi_steps), ("ablaut/analogy.ending", Rows.laid_ablaut_analogy_ending), ("ablaut/analogy.beginning", Rows.laid_ablaut_analogy_beginning)] [.data, .funcs, .funcs, .funcs] true :=
  Program.laidByTextLater.sub seatTie1 ["math/bits.deBruijn32tab", "ablaut/multi.steps", "ablaut/analogy.ending", "ablaut/analogy.beginning"] (by kernel_rfl) (by kernel_rfl)
theorem analogyCost_row_tie : Rows.analogyCostRow.laidByTextAt .later Tryd.pinned [.data, .funcs, .funcs, .funcs] true :=
  OpenClaim.laidByTextAt_later rfl rfl tie noOwnUnsafe
theorem analogyKnown_row_tie : Rows.analogyKnownRow.laidByTextAt .later Tryd.pinned [.data, .funcs, .funcs, .funcs] true :=
  OpenClaim.laidByTextAt_later rfl rfl tie noOwnUnsafe
theorem analogyCostUpto_row_tie : Rows.analogyCostUptoRow.laidByTextAt .later Tryd.pinned [.data, .funcs, .funcs, .funcs] true :=
  OpenClaim.laidByTextAt_later rfl rfl tie noOwnUnsafe
theorem analogyKnownUpto_row_tie : Rows.analogyKnownUptoRow.laidByTextAt .later Tryd.pinned [.data, .funcs, .funcs, .funcs] true :=
  OpenClaim.laidByTextAt_later rfl rfl tie noOwnUnsafe
end Go.Proofs.YtpbbnmjkbfbelabDoor
