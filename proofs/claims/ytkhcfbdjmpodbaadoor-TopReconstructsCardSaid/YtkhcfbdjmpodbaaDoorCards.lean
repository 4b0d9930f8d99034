/-
  DERIVED. GIVEN WITH THE SEED: THE CARDS: each row of YtkhcfbdjmpodbaaDoorRows.lean that lists a variable, with what it lists TIED to the program's text (the seventh form; the later family's looks); each row that meets fmt, with fmt's text TOLD by the authors' own Lean function (tested against real Go, not proved from fmt's source: count such statements apart). THE CARD IS WHAT COUNTS. Prove the row's statement (the work); the ties are given (YtkhcfbdjmpodbaaDoorTie.lean); close each card by the builder's one call (the guide's Derived/Test/ToyasCard.lean, 'card_holds'). Laid BY PROGRAM, IN A SANDBOX (cutbox-door.mjs). By AI agents, Wed Nov 11 2026. No macro, syntax, notation, axiom, sorry.
-/
import Derived.Test.YtkhcfbdjmpodbaaDoorRows
import GoSem.ClaimSeven
namespace Go.Proofs.YtkhcfbdjmpodbaaDoor
namespace Rows

/-- THE TIED CARD OF 'ablauttop.TopReconstructs'. -/
def topReconstructsCard : Claim7 := { stood := { row := topReconstructsRow, standIns := [], harness := (true, "26ff8b0ec24348c9cff4336ef6d4891fde5ebd29052f634f081f31b1a3995e0a"), looks := false }, kinds := [], alts := [], laidByText := true, laidKinds := [.data, .funcs], laidTests := true, laidLooks := .later }
def TopReconstructsCardSaid : Prop := Claim7.holds Tryd.pinned (.plain (OpenSpec.ofChange topReconstructsSpec)) topReconstructsCard

/-- THE SECOND FORM's CARD OF 'ablauttop.TopReconstructs'. -/
def topReconstructsUptoCard : Claim7 := { stood := { row := topReconstructsUptoRow, standIns := [], harness := (true, "26ff8b0ec24348c9cff4336ef6d4891fde5ebd29052f634f081f31b1a3995e0a"), looks := false }, kinds := [], alts := [], laidByText := true, laidKinds := [.data, .funcs], laidTests := true, laidLooks := .later }
def TopReconstructsUptoCardSaid : Prop := Claim7.holds Tryd.pinned (.plain (OpenSpec.upto topReconstructsSpec)) topReconstructsUptoCard
end Rows
end Go.Proofs.YtkhcfbdjmpodbaaDoor
