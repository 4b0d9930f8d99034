/-
  DERIVED. GIVEN WITH THE SEED: THE PROGRAM's TIES (one call each: nine closed facts by the kernel) AND EACH ROW's TIE, after the 31st guide's Derived/Test/Toyas{Tie, Card}.lean. No idea stands in it: it is a product of the set-up. Laid BY PROGRAM, IN A SANDBOX (cutbox-door.mjs). By AI agents, Wed Nov 11 2026. No macro, syntax, notation, axiom, sorry.
-/
import Derived.Test.YtpbbnmjkbfbelaaGreatDoorRows
import Derived.LaidByTextLater
import Derived.SevenTiedAt
import Derived.LaidSub
import Derived.LaidOnce
namespace Go.Proofs.YtpbbnmjkbfbelaaGreatDoor
open Go
set_option maxRecDepth 100000
theorem seatTie1 : Tryz.prog.laidByTextLater [("math/bits.deBruijn32tab", Rows.laid_math_bits_deBruijn32tab), ("ablaut/multi.steps", Rows.laid_ablaut_multi_steps), ("ablaut/analogy.ending", Rows.laid_ablaut_analogy_ending), ("ablaut/analogy.beginning", Rows.laid_ablaut_analogy_beginning)] [.data, .funcs, .funcs, .funcs] true :=
  Program.laidByTextLater_by_one 32 8 33 (by kernel_rfl) (by kernel_rfl) (by kernel_rfl) (by kernel_rfl) (by kernel_rfl) (by kernel_rfl) (fun _ _ => by kernel_rfl)
theorem noOwnUnsafe : Tryz.pinned.checked.prog.headLifts.contains "ownunsafe" = false := by kernel_rfl
theorem tie : Tryz.prog.laidByTextLater [("math/bits.deBruijn32tab", Rows.laid_math_bits_deBruijn32tab), ("ablaut/multi.steps", Rows.laid_ablaut_multi_steps), ("ablaut/analogy.ending", Rows.laid_ablaut_analogy_ending), ("ablaut/analogy.beginning", Rows.laid_ablaut_analogy_beginning)] [.data, .funcs, .funcs, .funcs] true :=
  Program.laidByTextLater.sub seatTie1 ["math/bits.deBruijn32tab", "ablaut/multi.steps", "ablaut/analogy.ending", "ablaut/analogy.beginning"] (by kernel_rfl) (by kernel_rfl)
theorem analogyCosts_row_tie : Rows.analogyCostsRow.laidByTextAt .later Tryz.pinned [.data, .funcs, .funcs, .funcs] true :=
  OpenClaim.laidByTextAt_later rfl rfl tie noOwnUnsafe
theorem analogyCostsUpto_row_tie : Rows.analogyCostsUptoRow.laidByTextAt .later Tryz.pinned [.data, .funcs, .funcs, .funcs] true :=
  OpenClaim.laidByTextAt_later rfl rfl tie noOwnUnsafe
end Go.Proofs.YtpbbnmjkbfbelaaGreatDoor
