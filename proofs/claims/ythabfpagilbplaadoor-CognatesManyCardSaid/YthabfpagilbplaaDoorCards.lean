/-
  DERIVED. GIVEN WITH THE SEED: THE CARDS: each row of YthabfpagilbplaaDoorRows.lean that lists a variable, with what it lists TIED to the program's text (the seventh form; the later family's looks); each row that meets fmt, with fmt's text TOLD by the authors' own Lean function (tested against real Go, not proved from fmt's source: count such statements apart). THE CARD IS WHAT COUNTS. Prove the row's statement (the work); the ties are given (YthabfpagilbplaaDoorTie.lean); close each card by the builder's one call (the guide's Derived/Test/ToyasCard.lean, 'card_holds'). Laid BY PROGRAM, IN A SANDBOX (cutbox-door.mjs). By AI agents, Wed Nov 11 2026. No macro, syntax, notation, axiom, sorry.
-/
import Derived.Test.YthabfpagilbplaaDoorRows
import GoSem.ClaimSeven
namespace Go.Proofs.YthabfpagilbplaaDoor
namespace Rows

/-- THE TIED CARD OF 'ablautlaw19.CognatesLabels'. -/
def cognatesLabelsCard : Claim7 := { stood := { row := cognatesLabelsRow, standIns := [], harness := (true, "74ded2b13ce3947ec1417d0a3395b495d68a45363c58ec8ee3d6fbdb1ee942b2"), looks := false }, kinds := [], alts := [], laidByText := true, laidKinds := [.data], laidTests := true, laidLooks := .later }
def CognatesLabelsCardSaid : Prop := Claim7.holds Tryd.pinned (.plain (OpenSpec.ofChange cognatesLabelsSpec)) cognatesLabelsCard

/-- THE TIED CARD OF 'ablautlaw19.CognatesCompares'. -/
def cognatesComparesCard : Claim7 := { stood := { row := cognatesComparesRow, standIns := [], harness := (true, "74ded2b13ce3947ec1417d0a3395b495d68a45363c58ec8ee3d6fbdb1ee942b2"), looks := false }, kinds := [], alts := [], laidByText := true, laidKinds := [.data], laidTests := true, laidLooks := .later }
def CognatesComparesCardSaid : Prop := Claim7.holds Tryd.pinned (.plain (OpenSpec.ofChange cognatesComparesSpec)) cognatesComparesCard

/-- THE TIED CARD OF 'ablautlaw19.CognatesFiner'. -/
def cognatesFinerCard : Claim7 := { stood := { row := cognatesFinerRow, standIns := [], harness := (true, "74ded2b13ce3947ec1417d0a3395b495d68a45363c58ec8ee3d6fbdb1ee942b2"), looks := false }, kinds := [], alts := [], laidByText := true, laidKinds := [.data], laidTests := true, laidLooks := .later }
def CognatesFinerCardSaid : Prop := Claim7.holds Tryd.pinned (.plain (OpenSpec.ofChange cognatesFinerSpec)) cognatesFinerCard

/-- THE TIED CARD OF 'ablautlaw19.CognatesExtremes'. -/
def cognatesExtremesCard : Claim7 := { stood := { row := cognatesExtremesRow, standIns := [], harness := (true, "74ded2b13ce3947ec1417d0a3395b495d68a45363c58ec8ee3d6fbdb1ee942b2"), looks := false }, kinds := [], alts := [], laidByText := true, laidKinds := [.data], laidTests := true, laidLooks := .later }
def CognatesExtremesCardSaid : Prop := Claim7.holds Tryd.pinned (.plain (OpenSpec.ofChange cognatesExtremesSpec)) cognatesExtremesCard

/-- THE TIED CARD OF 'ablautlaw19.CognatesLimits'. -/
def cognatesLimitsCard : Claim7 := { stood := { row := cognatesLimitsRow, standIns := [], harness := (true, "74ded2b13ce3947ec1417d0a3395b495d68a45363c58ec8ee3d6fbdb1ee942b2"), looks := false }, kinds := [], alts := [], laidByText := true, laidKinds := [.data], laidTests := true, laidLooks := .later }
def CognatesLimitsCardSaid : Prop := Claim7.holds Tryd.pinned (.plain (OpenSpec.ofChange cognatesLimitsSpec)) cognatesLimitsCard

/-- THE TIED CARD OF 'ablautlaw19.CognatesShares'. -/
def cognatesSharesCard : Claim7 := { stood := { row := cognatesSharesRow, standIns := [], harness := (true, "74ded2b13ce3947ec1417d0a3395b495d68a45363c58ec8ee3d6fbdb1ee942b2"), looks := false }, kinds := [], alts := [], laidByText := true, laidKinds := [.data], laidTests := true, laidLooks := .later }
def CognatesSharesCardSaid : Prop := Claim7.holds Tryd.pinned (.plain (OpenSpec.ofChange cognatesSharesSpec)) cognatesSharesCard

/-- THE TIED CARD OF 'ablautlaw19.CognatesTurned'. -/
def cognatesTurnedCard : Claim7 := { stood := { row := cognatesTurnedRow, standIns := [], harness := (true, "74ded2b13ce3947ec1417d0a3395b495d68a45363c58ec8ee3d6fbdb1ee942b2"), looks := false }, kinds := [], alts := [], laidByText := true, laidKinds := [.data], laidTests := true, laidLooks := .later }
def CognatesTurnedCardSaid : Prop := Claim7.holds Tryd.pinned (.plain (OpenSpec.ofChange cognatesTurnedSpec)) cognatesTurnedCard

/-- THE TIED CARD OF 'ablautlaw19.CognatesSets'. -/
def cognatesSetsCard : Claim7 := { stood := { row := cognatesSetsRow, standIns := [], harness := (true, "74ded2b13ce3947ec1417d0a3395b495d68a45363c58ec8ee3d6fbdb1ee942b2"), looks := false }, kinds := [], alts := [], laidByText := true, laidKinds := [.data], laidTests := true, laidLooks := .later }
def CognatesSetsCardSaid : Prop := Claim7.holds Tryd.pinned (.plain (OpenSpec.ofChange cognatesSetsSpec)) cognatesSetsCard

/-- THE TIED CARD OF 'ablautlaw19.CognatesClasses'. -/
def cognatesClassesCard : Claim7 := { stood := { row := cognatesClassesRow, standIns := [], harness := (true, "74ded2b13ce3947ec1417d0a3395b495d68a45363c58ec8ee3d6fbdb1ee942b2"), looks := false }, kinds := [], alts := [], laidByText := true, laidKinds := [.data], laidTests := true, laidLooks := .later }
def CognatesClassesCardSaid : Prop := Claim7.holds Tryd.pinned (.plain (OpenSpec.ofChange cognatesClassesSpec)) cognatesClassesCard

/-- THE TIED CARD OF 'ablautlaw19.CognatesTables'. -/
def cognatesTablesCard : Claim7 := { stood := { row := cognatesTablesRow, standIns := [], harness := (true, "74ded2b13ce3947ec1417d0a3395b495d68a45363c58ec8ee3d6fbdb1ee942b2"), looks := false }, kinds := [], alts := [], laidByText := true, laidKinds := [.data], laidTests := true, laidLooks := .later }
def CognatesTablesCardSaid : Prop := Claim7.holds Tryd.pinned (.plain (OpenSpec.ofChange cognatesTablesSpec)) cognatesTablesCard

/-- THE TIED CARD OF 'ablautlaw19.CognatesRows'. -/
def cognatesRowsCard : Claim7 := { stood := { row := cognatesRowsRow, standIns := [], harness := (true, "74ded2b13ce3947ec1417d0a3395b495d68a45363c58ec8ee3d6fbdb1ee942b2"), looks := false }, kinds := [], alts := [], laidByText := true, laidKinds := [.data], laidTests := true, laidLooks := .later }
def CognatesRowsCardSaid : Prop := Claim7.holds Tryd.pinned (.plain (OpenSpec.ofChange cognatesRowsSpec)) cognatesRowsCard

/-- THE TIED CARD OF 'ablautlaw19.CognatesMany'. -/
def cognatesManyCard : Claim7 := { stood := { row := cognatesManyRow, standIns := [], harness := (true, "74ded2b13ce3947ec1417d0a3395b495d68a45363c58ec8ee3d6fbdb1ee942b2"), looks := false }, kinds := [], alts := [], laidByText := true, laidKinds := [.data], laidTests := true, laidLooks := .later }
def CognatesManyCardSaid : Prop := Claim7.holds Tryd.pinned (.plain (OpenSpec.ofChange cognatesManySpec)) cognatesManyCard

/-- THE SECOND FORM's CARD OF 'ablautlaw19.CognatesLabels'. -/
def cognatesLabelsUptoCard : Claim7 := { stood := { row := cognatesLabelsUptoRow, standIns := [], harness := (true, "74ded2b13ce3947ec1417d0a3395b495d68a45363c58ec8ee3d6fbdb1ee942b2"), looks := false }, kinds := [], alts := [], laidByText := true, laidKinds := [.data], laidTests := true, laidLooks := .later }
def CognatesLabelsUptoCardSaid : Prop := Claim7.holds Tryd.pinned (.plain (OpenSpec.upto cognatesLabelsSpec)) cognatesLabelsUptoCard

/-- THE SECOND FORM's CARD OF 'ablautlaw19.CognatesCompares'. -/
def cognatesComparesUptoCard : Claim7 := { stood := { row := cognatesComparesUptoRow, standIns := [], harness := (true, "74ded2b13ce3947ec1417d0a3395b495d68a45363c58ec8ee3d6fbdb1ee942b2"), looks := false }, kinds := [], alts := [], laidByText := true, laidKinds := [.data], laidTests := true, laidLooks := .later }
def CognatesComparesUptoCardSaid : Prop := Claim7.holds Tryd.pinned (.plain (OpenSpec.upto cognatesComparesSpec)) cognatesComparesUptoCard

/-- THE SECOND FORM's CARD OF 'ablautlaw19.CognatesFiner'. -/
def cognatesFinerUptoCard : Claim7 := { stood := { row := cognatesFinerUptoRow, standIns := [], harness := (true, "74ded2b13ce3947ec1417d0a3395b495d68a45363c58ec8ee3d6fbdb1ee942b2"), looks := false }, kinds := [], alts := [], laidByText := true, laidKinds := [.data], laidTests := true, laidLooks := .later }
def CognatesFinerUptoCardSaid : Prop := Claim7.holds Tryd.pinned (.plain (OpenSpec.upto cognatesFinerSpec)) cognatesFinerUptoCard

/-- THE SECOND FORM's CARD OF 'ablautlaw19.CognatesExtremes'. -/
def cognatesExtremesUptoCard : Claim7 := { stood := { row := cognatesExtremesUptoRow, standIns := [], harness := (true, "74ded2b13ce3947ec1417d0a3395b495d68a45363c58ec8ee3d6fbdb1ee942b2"), looks := false }, kinds := [], alts := [], laidByText := true, laidKinds := [.data], laidTests := true, laidLooks := .later }
def CognatesExtremesUptoCardSaid : Prop := Claim7.holds Tryd.pinned (.plain (OpenSpec.upto cognatesExtremesSpec)) cognatesExtremesUptoCard

/-- THE SECOND FORM's CARD OF 'ablautlaw19.CognatesLimits'. -/
def cognatesLimitsUptoCard : Claim7 := { stood := { row := cognatesLimitsUptoRow, standIns := [], harness := (true, "74ded2b13ce3947ec1417d0a3395b495d68a45363c58ec8ee3d6fbdb1ee942b2"), looks := false }, kinds := [], alts := [], laidByText := true, laidKinds := [.data], laidTests := true, laidLooks := .later }
def CognatesLimitsUptoCardSaid : Prop := Claim7.holds Tryd.pinned (.plain (OpenSpec.upto cognatesLimitsSpec)) cognatesLimitsUptoCard

/-- THE SECOND FORM's CARD OF 'ablautlaw19.CognatesShares'. -/
def cognatesSharesUptoCard : Claim7 := { stood := { row := cognatesSharesUptoRow, standIns := [], harness := (true, "74ded2b13ce3947ec1417d0a3395b495d68a45363c58ec8ee3d6fbdb1ee942b2"), looks := false }, kinds := [], alts := [], laidByText := true, laidKinds := [.data], laidTests := true, laidLooks := .later }
def CognatesSharesUptoCardSaid : Prop := Claim7.holds Tryd.pinned (.plain (OpenSpec.upto cognatesSharesSpec)) cognatesSharesUptoCard

/-- THE SECOND FORM's CARD OF 'ablautlaw19.CognatesTurned'. -/
def cognatesTurnedUptoCard : Claim7 := { stood := { row := cognatesTurnedUptoRow, standIns := [], harness := (true, "74ded2b13ce3947ec1417d0a3395b495d68a45363c58ec8ee3d6fbdb1ee942b2"), looks := false }, kinds := [], alts := [], laidByText := true, laidKinds := [.data], laidTests := true, laidLooks := .later }
def CognatesTurnedUptoCardSaid : Prop := Claim7.holds Tryd.pinned (.plain (OpenSpec.upto cognatesTurnedSpec)) cognatesTurnedUptoCard

/-- THE SECOND FORM's CARD OF 'ablautlaw19.CognatesSets'. -/
def cognatesSetsUptoCard : Claim7 := { stood := { row := cognatesSetsUptoRow, standIns := [], harness := (true, "74ded2b13ce3947ec1417d0a3395b495d68a45363c58ec8ee3d6fbdb1ee942b2"), looks := false }, kinds := [], alts := [], laidByText := true, laidKinds := [.data], laidTests := true, laidLooks := .later }
def CognatesSetsUptoCardSaid : Prop := Claim7.holds Tryd.pinned (.plain (OpenSpec.upto cognatesSetsSpec)) cognatesSetsUptoCard

/-- THE SECOND FORM's CARD OF 'ablautlaw19.CognatesClasses'. -/
def cognatesClassesUptoCard : Claim7 := { stood := { row := cognatesClassesUptoRow, standIns := [], harness := (true, "74ded2b13ce3947ec1417d0a3395b495d68a45363c58ec8ee3d6fbdb1ee942b2"), looks := false }, kinds := [], alts := [], laidByText := true, laidKinds := [.data], laidTests := true, laidLooks := .later }
def CognatesClassesUptoCardSaid : Prop := Claim7.holds Tryd.pinned (.plain (OpenSpec.upto cognatesClassesSpec)) cognatesClassesUptoCard

/-- THE SECOND FORM's CARD OF 'ablautlaw19.CognatesTables'. -/
def cognatesTablesUptoCard : Claim7 := { stood := { row := cognatesTablesUptoRow, standIns := [], harness := (true, "74ded2b13ce3947ec1417d0a3395b495d68a45363c58ec8ee3d6fbdb1ee942b2"), looks := false }, kinds := [], alts := [], laidByText := true, laidKinds := [.data], laidTests := true, laidLooks := .later }
def CognatesTablesUptoCardSaid : Prop := Claim7.holds Tryd.pinned (.plain (OpenSpec.upto cognatesTablesSpec)) cognatesTablesUptoCard

/-- THE SECOND FORM's CARD OF 'ablautlaw19.CognatesRows'. -/
def cognatesRowsUptoCard : Claim7 := { stood := { row := cognatesRowsUptoRow, standIns := [], harness := (true, "74ded2b13ce3947ec1417d0a3395b495d68a45363c58ec8ee3d6fbdb1ee942b2"), looks := false }, kinds := [], alts := [], laidByText := true, laidKinds := [.data], laidTests := true, laidLooks := .later }
def CognatesRowsUptoCardSaid : Prop := Claim7.holds Tryd.pinned (.plain (OpenSpec.upto cognatesRowsSpec)) cognatesRowsUptoCard

/-- THE SECOND FORM's CARD OF 'ablautlaw19.CognatesMany'. -/
def cognatesManyUptoCard : Claim7 := { stood := { row := cognatesManyUptoRow, standIns := [], harness := (true, "74ded2b13ce3947ec1417d0a3395b495d68a45363c58ec8ee3d6fbdb1ee942b2"), looks := false }, kinds := [], alts := [], laidByText := true, laidKinds := [.data], laidTests := true, laidLooks := .later }
def CognatesManyUptoCardSaid : Prop := Claim7.holds Tryd.pinned (.plain (OpenSpec.upto cognatesManySpec)) cognatesManyUptoCard
end Rows
end Go.Proofs.YthabfpagilbplaaDoor
