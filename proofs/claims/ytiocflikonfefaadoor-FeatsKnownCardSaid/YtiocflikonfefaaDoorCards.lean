/-
  DERIVED. GIVEN WITH THE SEED: THE CARDS: each row of YtiocflikonfefaaDoorRows.lean that lists a variable, with what it lists TIED to the program's text (the seventh form; the later family's looks); each row that meets fmt, with fmt's text TOLD by the authors' own Lean function (tested against real Go, not proved from fmt's source: count such statements apart). THE CARD IS WHAT COUNTS. Prove the row's statement (the work); the ties are given (YtiocflikonfefaaDoorTie.lean); close each card by the builder's one call (the guide's Derived/Test/ToyasCard.lean, 'card_holds'). Laid BY PROGRAM, IN A SANDBOX (cutbox-door.mjs). By AI agents, Wed Nov 11 2026. No macro, syntax, notation, axiom, sorry.
-/
import Derived.Test.YtiocflikonfefaaDoorRows
import GoSem.ClaimSeven
namespace Go.Proofs.YtiocflikonfefaaDoor
namespace Rows

/-- THE TIED CARD OF 'ablautlaw01.FeatsValues'. -/
def featsValuesCard : Claim7 := { stood := { row := featsValuesRow, standIns := [], harness := (true, "3940ddc66dbd6f30dccfecabc2a23e3f0cb923afc55146746b1ff97c13b1d018"), looks := false }, kinds := [], alts := [], laidByText := true, laidKinds := [.data], laidTests := true, laidLooks := .later }
def FeatsValuesCardSaid : Prop := Claim7.holds Tryd.pinned (.plain (OpenSpec.ofChange featsValuesSpec)) featsValuesCard

/-- THE TIED CARD OF 'ablautlaw01.FeatsPairs'. -/
def featsPairsCard : Claim7 := { stood := { row := featsPairsRow, standIns := [], harness := (true, "3940ddc66dbd6f30dccfecabc2a23e3f0cb923afc55146746b1ff97c13b1d018"), looks := false }, kinds := [], alts := [], laidByText := true, laidKinds := [.data], laidTests := true, laidLooks := .later }
def FeatsPairsCardSaid : Prop := Claim7.holds Tryd.pinned (.plain (OpenSpec.ofChange featsPairsSpec)) featsPairsCard

/-- THE TIED CARD OF 'ablautlaw01.FeatsCosts'. -/
def featsCostsCard : Claim7 := { stood := { row := featsCostsRow, standIns := [], harness := (true, "3940ddc66dbd6f30dccfecabc2a23e3f0cb923afc55146746b1ff97c13b1d018"), looks := false }, kinds := [], alts := [], laidByText := true, laidKinds := [.data], laidTests := true, laidLooks := .later }
def FeatsCostsCardSaid : Prop := Claim7.holds Tryd.pinned (.plain (OpenSpec.ofChange featsCostsSpec)) featsCostsCard

/-- THE TIED CARD OF 'ablautlaw01.FeatsMeets'. -/
def featsMeetsCard : Claim7 := { stood := { row := featsMeetsRow, standIns := [], harness := (true, "3940ddc66dbd6f30dccfecabc2a23e3f0cb923afc55146746b1ff97c13b1d018"), looks := false }, kinds := [], alts := [], laidByText := true, laidKinds := [.data], laidTests := true, laidLooks := .later }
def FeatsMeetsCardSaid : Prop := Claim7.holds Tryd.pinned (.plain (OpenSpec.ofChange featsMeetsSpec)) featsMeetsCard

/-- THE TIED CARD OF 'ablautlaw01.FeatsUnifies'. -/
def featsUnifiesCard : Claim7 := { stood := { row := featsUnifiesRow, standIns := [], harness := (true, "3940ddc66dbd6f30dccfecabc2a23e3f0cb923afc55146746b1ff97c13b1d018"), looks := false }, kinds := [], alts := [], laidByText := true, laidKinds := [.data], laidTests := true, laidLooks := .later }
def FeatsUnifiesCardSaid : Prop := Claim7.holds Tryd.pinned (.plain (OpenSpec.ofChange featsUnifiesSpec)) featsUnifiesCard

/-- THE TIED CARD OF 'ablautlaw01.FeatsMetric'. -/
def featsMetricCard : Claim7 := { stood := { row := featsMetricRow, standIns := [], harness := (true, "3940ddc66dbd6f30dccfecabc2a23e3f0cb923afc55146746b1ff97c13b1d018"), looks := false }, kinds := [], alts := [], laidByText := true, laidKinds := [.data], laidTests := true, laidLooks := .later }
def FeatsMetricCardSaid : Prop := Claim7.holds Tryd.pinned (.plain (OpenSpec.ofChange featsMetricSpec)) featsMetricCard

/-- THE TIED CARD OF 'ablautlaw01.FeatsSets'. -/
def featsSetsCard : Claim7 := { stood := { row := featsSetsRow, standIns := [], harness := (true, "3940ddc66dbd6f30dccfecabc2a23e3f0cb923afc55146746b1ff97c13b1d018"), looks := false }, kinds := [], alts := [], laidByText := true, laidKinds := [.data], laidTests := true, laidLooks := .later }
def FeatsSetsCardSaid : Prop := Claim7.holds Tryd.pinned (.plain (OpenSpec.ofChange featsSetsSpec)) featsSetsCard

/-- THE TIED CARD OF 'ablautlaw01.FeatsTakes'. -/
def featsTakesCard : Claim7 := { stood := { row := featsTakesRow, standIns := [], harness := (true, "3940ddc66dbd6f30dccfecabc2a23e3f0cb923afc55146746b1ff97c13b1d018"), looks := false }, kinds := [], alts := [], laidByText := true, laidKinds := [.data], laidTests := true, laidLooks := .later }
def FeatsTakesCardSaid : Prop := Claim7.holds Tryd.pinned (.plain (OpenSpec.ofChange featsTakesSpec)) featsTakesCard

/-- THE TIED CARD OF 'ablautlaw01.FeatsOrders'. -/
def featsOrdersCard : Claim7 := { stood := { row := featsOrdersRow, standIns := [], harness := (true, "3940ddc66dbd6f30dccfecabc2a23e3f0cb923afc55146746b1ff97c13b1d018"), looks := false }, kinds := [], alts := [], laidByText := true, laidKinds := [.data], laidTests := true, laidLooks := .later }
def FeatsOrdersCardSaid : Prop := Claim7.holds Tryd.pinned (.plain (OpenSpec.ofChange featsOrdersSpec)) featsOrdersCard

/-- THE TIED CARD OF 'ablautlaw01.FeatsChanges'. -/
def featsChangesCard : Claim7 := { stood := { row := featsChangesRow, standIns := [], harness := (true, "3940ddc66dbd6f30dccfecabc2a23e3f0cb923afc55146746b1ff97c13b1d018"), looks := false }, kinds := [], alts := [], laidByText := true, laidKinds := [.data], laidTests := true, laidLooks := .later }
def FeatsChangesCardSaid : Prop := Claim7.holds Tryd.pinned (.plain (OpenSpec.ofChange featsChangesSpec)) featsChangesCard

/-- THE TIED CARD OF 'ablautlaw01.FeatsChanged'. -/
def featsChangedCard : Claim7 := { stood := { row := featsChangedRow, standIns := [], harness := (true, "3940ddc66dbd6f30dccfecabc2a23e3f0cb923afc55146746b1ff97c13b1d018"), looks := false }, kinds := [], alts := [], laidByText := true, laidKinds := [.data], laidTests := true, laidLooks := .later }
def FeatsChangedCardSaid : Prop := Claim7.holds Tryd.pinned (.plain (OpenSpec.ofChange featsChangedSpec)) featsChangedCard

/-- THE TIED CARD OF 'ablautlaw01.FeatsKnown'. -/
def featsKnownCard : Claim7 := { stood := { row := featsKnownRow, standIns := [], harness := (true, "3940ddc66dbd6f30dccfecabc2a23e3f0cb923afc55146746b1ff97c13b1d018"), looks := false }, kinds := [], alts := [], laidByText := true, laidKinds := [.data], laidTests := true, laidLooks := .later }
def FeatsKnownCardSaid : Prop := Claim7.holds Tryd.pinned (.plain (OpenSpec.ofChange featsKnownSpec)) featsKnownCard

/-- THE SECOND FORM's CARD OF 'ablautlaw01.FeatsValues'. -/
def featsValuesUptoCard : Claim7 := { stood := { row := featsValuesUptoRow, standIns := [], harness := (true, "3940ddc66dbd6f30dccfecabc2a23e3f0cb923afc55146746b1ff97c13b1d018"), looks := false }, kinds := [], alts := [], laidByText := true, laidKinds := [.data], laidTests := true, laidLooks := .later }
def FeatsValuesUptoCardSaid : Prop := Claim7.holds Tryd.pinned (.plain (OpenSpec.upto featsValuesSpec)) featsValuesUptoCard

/-- THE SECOND FORM's CARD OF 'ablautlaw01.FeatsPairs'. -/
def featsPairsUptoCard : Claim7 := { stood := { row := featsPairsUptoRow, standIns := [], harness := (true, "3940ddc66dbd6f30dccfecabc2a23e3f0cb923afc55146746b1ff97c13b1d018"), looks := false }, kinds := [], alts := [], laidByText := true, laidKinds := [.data], laidTests := true, laidLooks := .later }
def FeatsPairsUptoCardSaid : Prop := Claim7.holds Tryd.pinned (.plain (OpenSpec.upto featsPairsSpec)) featsPairsUptoCard

/-- THE SECOND FORM's CARD OF 'ablautlaw01.FeatsCosts'. -/
def featsCostsUptoCard : Claim7 := { stood := { row := featsCostsUptoRow, standIns := [], harness := (true, "3940ddc66dbd6f30dccfecabc2a23e3f0cb923afc55146746b1ff97c13b1d018"), looks := false }, kinds := [], alts := [], laidByText := true, laidKinds := [.data], laidTests := true, laidLooks := .later }
def FeatsCostsUptoCardSaid : Prop := Claim7.holds Tryd.pinned (.plain (OpenSpec.upto featsCostsSpec)) featsCostsUptoCard

/-- THE SECOND FORM's CARD OF 'ablautlaw01.FeatsMeets'. -/
def featsMeetsUptoCard : Claim7 := { stood := { row := featsMeetsUptoRow, standIns := [], harness := (true, "3940ddc66dbd6f30dccfecabc2a23e3f0cb923afc55146746b1ff97c13b1d018"), looks := false }, kinds := [], alts := [], laidByText := true, laidKinds := [.data], laidTests := true, laidLooks := .later }
def FeatsMeetsUptoCardSaid : Prop := Claim7.holds Tryd.pinned (.plain (OpenSpec.upto featsMeetsSpec)) featsMeetsUptoCard

/-- THE SECOND FORM's CARD OF 'ablautlaw01.FeatsUnifies'. -/
def featsUnifiesUptoCard : Claim7 := { stood := { row := featsUnifiesUptoRow, standIns := [], harness := (true, "3940ddc66dbd6f30dccfecabc2a23e3f0cb923afc55146746b1ff97c13b1d018"), looks := false }, kinds := [], alts := [], laidByText := true, laidKinds := [.data], laidTests := true, laidLooks := .later }
def FeatsUnifiesUptoCardSaid : Prop := Claim7.holds Tryd.pinned (.plain (OpenSpec.upto featsUnifiesSpec)) featsUnifiesUptoCard

/-- THE SECOND FORM's CARD OF 'ablautlaw01.FeatsMetric'. -/
def featsMetricUptoCard : Claim7 := { stood := { row := featsMetricUptoRow, standIns := [], harness := (true, "3940ddc66dbd6f30dccfecabc2a23e3f0cb923afc55146746b1ff97c13b1d018"), looks := false }, kinds := [], alts := [], laidByText := true, laidKinds := [.data], laidTests := true, laidLooks := .later }
def FeatsMetricUptoCardSaid : Prop := Claim7.holds Tryd.pinned (.plain (OpenSpec.upto featsMetricSpec)) featsMetricUptoCard

/-- THE SECOND FORM's CARD OF 'ablautlaw01.FeatsSets'. -/
def featsSetsUptoCard : Claim7 := { stood := { row := featsSetsUptoRow, standIns := [], harness := (true, "3940ddc66dbd6f30dccfecabc2a23e3f0cb923afc55146746b1ff97c13b1d018"), looks := false }, kinds := [], alts := [], laidByText := true, laidKinds := [.data], laidTests := true, laidLooks := .later }
def FeatsSetsUptoCardSaid : Prop := Claim7.holds Tryd.pinned (.plain (OpenSpec.upto featsSetsSpec)) featsSetsUptoCard

/-- THE SECOND FORM's CARD OF 'ablautlaw01.FeatsTakes'. -/
def featsTakesUptoCard : Claim7 := { stood := { row := featsTakesUptoRow, standIns := [], harness := (true, "3940ddc66dbd6f30dccfecabc2a23e3f0cb923afc55146746b1ff97c13b1d018"), looks := false }, kinds := [], alts := [], laidByText := true, laidKinds := [.data], laidTests := true, laidLooks := .later }
def FeatsTakesUptoCardSaid : Prop := Claim7.holds Tryd.pinned (.plain (OpenSpec.upto featsTakesSpec)) featsTakesUptoCard

/-- THE SECOND FORM's CARD OF 'ablautlaw01.FeatsOrders'. -/
def featsOrdersUptoCard : Claim7 := { stood := { row := featsOrdersUptoRow, standIns := [], harness := (true, "3940ddc66dbd6f30dccfecabc2a23e3f0cb923afc55146746b1ff97c13b1d018"), looks := false }, kinds := [], alts := [], laidByText := true, laidKinds := [.data], laidTests := true, laidLooks := .later }
def FeatsOrdersUptoCardSaid : Prop := Claim7.holds Tryd.pinned (.plain (OpenSpec.upto featsOrdersSpec)) featsOrdersUptoCard

/-- THE SECOND FORM's CARD OF 'ablautlaw01.FeatsChanges'. -/
def featsChangesUptoCard : Claim7 := { stood := { row := featsChangesUptoRow, standIns := [], harness := (true, "3940ddc66dbd6f30dccfecabc2a23e3f0cb923afc55146746b1ff97c13b1d018"), looks := false }, kinds := [], alts := [], laidByText := true, laidKinds := [.data], laidTests := true, laidLooks := .later }
def FeatsChangesUptoCardSaid : Prop := Claim7.holds Tryd.pinned (.plain (OpenSpec.upto featsChangesSpec)) featsChangesUptoCard

/-- THE SECOND FORM's CARD OF 'ablautlaw01.FeatsChanged'. -/
def featsChangedUptoCard : Claim7 := { stood := { row := featsChangedUptoRow, standIns := [], harness := (true, "3940ddc66dbd6f30dccfecabc2a23e3f0cb923afc55146746b1ff97c13b1d018"), looks := false }, kinds := [], alts := [], laidByText := true, laidKinds := [.data], laidTests := true, laidLooks := .later }
def FeatsChangedUptoCardSaid : Prop := Claim7.holds Tryd.pinned (.plain (OpenSpec.upto featsChangedSpec)) featsChangedUptoCard

/-- THE SECOND FORM's CARD OF 'ablautlaw01.FeatsKnown'. -/
def featsKnownUptoCard : Claim7 := { stood := { row := featsKnownUptoRow, standIns := [], harness := (true, "3940ddc66dbd6f30dccfecabc2a23e3f0cb923afc55146746b1ff97c13b1d018"), looks := false }, kinds := [], alts := [], laidByText := true, laidKinds := [.data], laidTests := true, laidLooks := .later }
def FeatsKnownUptoCardSaid : Prop := Claim7.holds Tryd.pinned (.plain (OpenSpec.upto featsKnownSpec)) featsKnownUptoCard
end Rows
end Go.Proofs.YtiocflikonfefaaDoor
