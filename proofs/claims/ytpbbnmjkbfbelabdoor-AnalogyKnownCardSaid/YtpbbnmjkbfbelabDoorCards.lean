/-
  DERIVED. GIVEN WITH THE SEED: THE CARDS: each row of YtpbbnmjkbfbelabDoorRows.lean that lists a variable, with what it lists TIED to the program's text (the seventh form; the later family's looks); each row that meets fmt, with fmt's text TOLD by the authors' own Lean function (tested against real Go, not proved from fmt's source: count such statements apart). THE CARD IS WHAT COUNTS. Prove the row's statement (the work); the ties are given (YtpbbnmjkbfbelabDoorTie.lean); close each card by the builder's one call (the guide's Derived/Test/ToyasCard.lean, 'card_holds'). Laid BY PROGRAM, IN A SANDBOX (cutbox-door.mjs). By AI agents, Wed Nov 11 2026. No macro, syntax, notation, axiom, sorry.
-/
import Derived.Test.YtpbbnmjkbfbelabDoorRows
import GoSem.ClaimSeven
namespace Go.Proofs.YtpbbnmjkbfbelabDoor
namespace Rows

/-- THE TIED CARD OF 'ablautlaw30.AnalogyCost'. -/
def analogyCostCard : Claim7 := { stood := { row := analogyCostRow, standIns := [], harness := (true, "66bade4f205ab6d538d6b9a5e51096ec3f54fc727400ed025a8822c69760e6f2"), looks := false }, kinds := [], alts := [], laidByText := true, laidKinds := [.data, .funcs, .funcs, .funcs], laidTests := true, laidLooks := .later }
def AnalogyCostCardSaid : Prop := Claim7.holds Tryd.pinned (.plain (OpenSpec.ofChange analogyCostSpec)) analogyCostCard

/-- THE TIED CARD OF 'ablautlaw30.AnalogyKnown'. -/
def analogyKnownCard : Claim7 := { stood := { row := analogyKnownRow, standIns := [], harness := (true, "66bade4f205ab6d538d6b9a5e51096ec3f54fc727400ed025a8822c69760e6f2"), looks := false }, kinds := [], alts := [], laidByText := true, laidKinds := [.data, .funcs, .funcs, .funcs], laidTests := true, laidLooks := .later }
def AnalogyKnownCardSaid : Prop := Claim7.holds Tryd.pinned (.plain (OpenSpec.ofChange analogyKnownSpec)) analogyKnownCard

/-- THE SECOND FORM's CARD OF 'ablautlaw30.AnalogyCost'. -/
def analogyCostUptoCard : Claim7 := { stood := { row := analogyCostUptoRow, standIns := [], harness := (true, "66bade4f205ab6d538d6b9a5e51096ec3f54fc727400ed025a8822c69760e6f2"), looks := false }, kinds := [], alts := [], laidByText := true, laidKinds := [.data, .funcs, .funcs, .funcs], laidTests := true, laidLooks := .later }
def AnalogyCostUptoCardSaid : Prop := Claim7.holds Tryd.pinned (.plain (OpenSpec.upto analogyCostSpec)) analogyCostUptoCard

/-- THE SECOND FORM's CARD OF 'ablautlaw30.AnalogyKnown'. -/
def analogyKnownUptoCard : Claim7 := { stood := { row := analogyKnownUptoRow, standIns := [], harness := (true, "66bade4f205ab6d538d6b9a5e51096ec3f54fc727400ed025a8822c69760e6f2"), looks := false }, kinds := [], alts := [], laidByText := true, laidKinds := [.data, .funcs, .funcs, .funcs], laidTests := true, laidLooks := .later }
def AnalogyKnownUptoCardSaid : Prop := Claim7.holds Tryd.pinned (.plain (OpenSpec.upto analogyKnownSpec)) analogyKnownUptoCard
end Rows
end Go.Proofs.YtpbbnmjkbfbelabDoor
