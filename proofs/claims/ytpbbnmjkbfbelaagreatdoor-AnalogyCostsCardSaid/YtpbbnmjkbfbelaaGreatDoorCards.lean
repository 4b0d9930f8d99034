/-
  DERIVED. GIVEN WITH THE SEED: THE CARDS: each row of YtpbbnmjkbfbelaaGreatDoorRows.lean that lists a variable, with what it lists TIED to the program's text (the seventh form; the later family's looks); each row that meets fmt, with fmt's text TOLD by the authors' own Lean function (tested against real Go, not proved from fmt's source: count such statements apart). THE CARD IS WHAT COUNTS. Prove the row's statement (the work); the ties are given (YtpbbnmjkbfbelaaGreatDoorTie.lean); close each card by the builder's one call (the guide's Derived/Test/ToyasCard.lean, 'card_holds'). Laid BY PROGRAM, IN A SANDBOX (cutbox-door.mjs). By AI agents, Wed Nov 11 2026. No macro, syntax, notation, axiom, sorry.
-/
import Derived.Test.YtpbbnmjkbfbelaaGreatDoorRows
import GoSem.ClaimSeven
namespace Go.Proofs.YtpbbnmjkbfbelaaGreatDoor
namespace Rows

/-- THE TIED CARD OF 'ablautlaw30.AnalogyCosts'. -/
def analogyCostsCard : Claim7 := { stood := { row := analogyCostsRow, standIns := [], harness := (true, "a29cb1b6d6864ad4f7dcdd7ad3a103b5561b9208b2ca739bf271f602df91c468"), looks := false }, kinds := [], alts := [], laidByText := true, laidKinds := [.data, .funcs, .funcs, .funcs], laidTests := true, laidLooks := .later }
def AnalogyCostsCardSaid : Prop := Claim7.holds Tryz.pinned (.plain (OpenSpec.ofChange analogyCostsSpec)) analogyCostsCard

/-- THE SECOND FORM's CARD OF 'ablautlaw30.AnalogyCosts'. -/
def analogyCostsUptoCard : Claim7 := { stood := { row := analogyCostsUptoRow, standIns := [], harness := (true, "a29cb1b6d6864ad4f7dcdd7ad3a103b5561b9208b2ca739bf271f602df91c468"), looks := false }, kinds := [], alts := [], laidByText := true, laidKinds := [.data, .funcs, .funcs, .funcs], laidTests := true, laidLooks := .later }
def AnalogyCostsUptoCardSaid : Prop := Claim7.holds Tryz.pinned (.plain (OpenSpec.upto analogyCostsSpec)) analogyCostsUptoCard
end Rows
end Go.Proofs.YtpbbnmjkbfbelaaGreatDoor
