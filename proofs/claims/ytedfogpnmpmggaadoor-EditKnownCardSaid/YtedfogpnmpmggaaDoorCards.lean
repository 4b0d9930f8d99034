/-
  DERIVED. GIVEN WITH THE SEED: THE CARDS: each row of YtedfogpnmpmggaaDoorRows.lean that lists a variable, with what it lists TIED to the program's text (the seventh form; the later family's looks); each row that meets fmt, with fmt's text TOLD by the authors' own Lean function (tested against real Go, not proved from fmt's source: count such statements apart). THE CARD IS WHAT COUNTS. Prove the row's statement (the work); the ties are given (YtedfogpnmpmggaaDoorTie.lean); close each card by the builder's one call (the guide's Derived/Test/ToyasCard.lean, 'card_holds'). Laid BY PROGRAM, IN A SANDBOX (cutbox-door.mjs). By AI agents, Wed Nov 11 2026. No macro, syntax, notation, axiom, sorry.
-/
import Derived.Test.YtedfogpnmpmggaaDoorRows
import GoSem.ClaimSeven
namespace Go.Proofs.YtedfogpnmpmggaaDoor
namespace Rows

/-- THE TIED CARD OF 'ablautlaw17.EditAligns'. -/
def editAlignsCard : Claim7 := { stood := { row := editAlignsRow, standIns := [], harness := (true, "afe5bbe106398cd9cd67dd048aec4c741dfcb00040ef3a1f6b32584d5db75a0e"), looks := false }, kinds := [], alts := [], laidByText := true, laidKinds := [.data], laidTests := true, laidLooks := .later }
def EditAlignsCardSaid : Prop := Claim7.holds Tryd.pinned (.plain (OpenSpec.ofChange editAlignsSpec)) editAlignsCard

/-- THE TIED CARD OF 'ablautlaw17.EditScores'. -/
def editScoresCard : Claim7 := { stood := { row := editScoresRow, standIns := [], harness := (true, "afe5bbe106398cd9cd67dd048aec4c741dfcb00040ef3a1f6b32584d5db75a0e"), looks := false }, kinds := [], alts := [], laidByText := true, laidKinds := [.data], laidTests := true, laidLooks := .later }
def EditScoresCardSaid : Prop := Claim7.holds Tryd.pinned (.plain (OpenSpec.ofChange editScoresSpec)) editScoresCard

/-- THE TIED CARD OF 'ablautlaw17.EditLongest'. -/
def editLongestCard : Claim7 := { stood := { row := editLongestRow, standIns := [], harness := (true, "afe5bbe106398cd9cd67dd048aec4c741dfcb00040ef3a1f6b32584d5db75a0e"), looks := false }, kinds := [], alts := [], laidByText := true, laidKinds := [.data], laidTests := true, laidLooks := .later }
def EditLongestCardSaid : Prop := Claim7.holds Tryd.pinned (.plain (OpenSpec.ofChange editLongestSpec)) editLongestCard

/-- THE TIED CARD OF 'ablautlaw17.EditMetric'. -/
def editMetricCard : Claim7 := { stood := { row := editMetricRow, standIns := [], harness := (true, "afe5bbe106398cd9cd67dd048aec4c741dfcb00040ef3a1f6b32584d5db75a0e"), looks := false }, kinds := [], alts := [], laidByText := true, laidKinds := [.data], laidTests := true, laidLooks := .later }
def EditMetricCardSaid : Prop := Claim7.holds Tryd.pinned (.plain (OpenSpec.ofChange editMetricSpec)) editMetricCard

/-- THE TIED CARD OF 'ablautlaw17.EditAligned'. -/
def editAlignedCard : Claim7 := { stood := { row := editAlignedRow, standIns := [], harness := (true, "afe5bbe106398cd9cd67dd048aec4c741dfcb00040ef3a1f6b32584d5db75a0e"), looks := false }, kinds := [], alts := [], laidByText := true, laidKinds := [.data], laidTests := true, laidLooks := .later }
def EditAlignedCardSaid : Prop := Claim7.holds Tryd.pinned (.plain (OpenSpec.ofChange editAlignedSpec)) editAlignedCard

/-- THE TIED CARD OF 'ablautlaw17.EditGrows'. -/
def editGrowsCard : Claim7 := { stood := { row := editGrowsRow, standIns := [], harness := (true, "afe5bbe106398cd9cd67dd048aec4c741dfcb00040ef3a1f6b32584d5db75a0e"), looks := false }, kinds := [], alts := [], laidByText := true, laidKinds := [.data], laidTests := true, laidLooks := .later }
def EditGrowsCardSaid : Prop := Claim7.holds Tryd.pinned (.plain (OpenSpec.ofChange editGrowsSpec)) editGrowsCard

/-- THE TIED CARD OF 'ablautlaw17.EditSubsequences'. -/
def editSubsequencesCard : Claim7 := { stood := { row := editSubsequencesRow, standIns := [], harness := (true, "afe5bbe106398cd9cd67dd048aec4c741dfcb00040ef3a1f6b32584d5db75a0e"), looks := false }, kinds := [], alts := [], laidByText := true, laidKinds := [.data], laidTests := true, laidLooks := .later }
def EditSubsequencesCardSaid : Prop := Claim7.holds Tryd.pinned (.plain (OpenSpec.ofChange editSubsequencesSpec)) editSubsequencesCard

/-- THE TIED CARD OF 'ablautlaw17.EditLists'. -/
def editListsCard : Claim7 := { stood := { row := editListsRow, standIns := [], harness := (true, "afe5bbe106398cd9cd67dd048aec4c741dfcb00040ef3a1f6b32584d5db75a0e"), looks := false }, kinds := [], alts := [], laidByText := true, laidKinds := [.data], laidTests := true, laidLooks := .later }
def EditListsCardSaid : Prop := Claim7.holds Tryd.pinned (.plain (OpenSpec.ofChange editListsSpec)) editListsCard

/-- THE TIED CARD OF 'ablautlaw17.EditNearest'. -/
def editNearestCard : Claim7 := { stood := { row := editNearestRow, standIns := [], harness := (true, "afe5bbe106398cd9cd67dd048aec4c741dfcb00040ef3a1f6b32584d5db75a0e"), looks := false }, kinds := [], alts := [], laidByText := true, laidKinds := [.data], laidTests := true, laidLooks := .later }
def EditNearestCardSaid : Prop := Claim7.holds Tryd.pinned (.plain (OpenSpec.ofChange editNearestSpec)) editNearestCard

/-- THE TIED CARD OF 'ablautlaw17.EditKnown'. -/
def editKnownCard : Claim7 := { stood := { row := editKnownRow, standIns := [], harness := (true, "afe5bbe106398cd9cd67dd048aec4c741dfcb00040ef3a1f6b32584d5db75a0e"), looks := false }, kinds := [], alts := [], laidByText := true, laidKinds := [.data], laidTests := true, laidLooks := .later }
def EditKnownCardSaid : Prop := Claim7.holds Tryd.pinned (.plain (OpenSpec.ofChange editKnownSpec)) editKnownCard

/-- THE SECOND FORM's CARD OF 'ablautlaw17.EditAligns'. -/
def editAlignsUptoCard : Claim7 := { stood := { row := editAlignsUptoRow, standIns := [], harness := (true, "afe5bbe106398cd9cd67dd048aec4c741dfcb00040ef3a1f6b32584d5db75a0e"), looks := false }, kinds := [], alts := [], laidByText := true, laidKinds := [.data], laidTests := true, laidLooks := .later }
def EditAlignsUptoCardSaid : Prop := Claim7.holds Tryd.pinned (.plain (OpenSpec.upto editAlignsSpec)) editAlignsUptoCard

/-- THE SECOND FORM's CARD OF 'ablautlaw17.EditScores'. -/
def editScoresUptoCard : Claim7 := { stood := { row := editScoresUptoRow, standIns := [], harness := (true, "afe5bbe106398cd9cd67dd048aec4c741dfcb00040ef3a1f6b32584d5db75a0e"), looks := false }, kinds := [], alts := [], laidByText := true, laidKinds := [.data], laidTests := true, laidLooks := .later }
def EditScoresUptoCardSaid : Prop := Claim7.holds Tryd.pinned (.plain (OpenSpec.upto editScoresSpec)) editScoresUptoCard

/-- THE SECOND FORM's CARD OF 'ablautlaw17.EditLongest'. -/
def editLongestUptoCard : Claim7 := { stood := { row := editLongestUptoRow, standIns := [], harness := (true, "afe5bbe106398cd9cd67dd048aec4c741dfcb00040ef3a1f6b32584d5db75a0e"), looks := false }, kinds := [], alts := [], laidByText := true, laidKinds := [.data], laidTests := true, laidLooks := .later }
def EditLongestUptoCardSaid : Prop := Claim7.holds Tryd.pinned (.plain (OpenSpec.upto editLongestSpec)) editLongestUptoCard

/-- THE SECOND FORM's CARD OF 'ablautlaw17.EditMetric'. -/
def editMetricUptoCard : Claim7 := { stood := { row := editMetricUptoRow, standIns := [], harness := (true, "afe5bbe106398cd9cd67dd048aec4c741dfcb00040ef3a1f6b32584d5db75a0e"), looks := false }, kinds := [], alts := [], laidByText := true, laidKinds := [.data], laidTests := true, laidLooks := .later }
def EditMetricUptoCardSaid : Prop := Claim7.holds Tryd.pinned (.plain (OpenSpec.upto editMetricSpec)) editMetricUptoCard

/-- THE SECOND FORM's CARD OF 'ablautlaw17.EditAligned'. -/
def editAlignedUptoCard : Claim7 := { stood := { row := editAlignedUptoRow, standIns := [], harness := (true, "afe5bbe106398cd9cd67dd048aec4c741dfcb00040ef3a1f6b32584d5db75a0e"), looks := false }, kinds := [], alts := [], laidByText := true, laidKinds := [.data], laidTests := true, laidLooks := .later }
def EditAlignedUptoCardSaid : Prop := Claim7.holds Tryd.pinned (.plain (OpenSpec.upto editAlignedSpec)) editAlignedUptoCard

/-- THE SECOND FORM's CARD OF 'ablautlaw17.EditGrows'. -/
def editGrowsUptoCard : Claim7 := { stood := { row := editGrowsUptoRow, standIns := [], harness := (true, "afe5bbe106398cd9cd67dd048aec4c741dfcb00040ef3a1f6b32584d5db75a0e"), looks := false }, kinds := [], alts := [], laidByText := true, laidKinds := [.data], laidTests := true, laidLooks := .later }
def EditGrowsUptoCardSaid : Prop := Claim7.holds Tryd.pinned (.plain (OpenSpec.upto editGrowsSpec)) editGrowsUptoCard

/-- THE SECOND FORM's CARD OF 'ablautlaw17.EditSubsequences'. -/
def editSubsequencesUptoCard : Claim7 := { stood := { row := editSubsequencesUptoRow, standIns := [], harness := (true, "afe5bbe106398cd9cd67dd048aec4c741dfcb00040ef3a1f6b32584d5db75a0e"), looks := false }, kinds := [], alts := [], laidByText := true, laidKinds := [.data], laidTests := true, laidLooks := .later }
def EditSubsequencesUptoCardSaid : Prop := Claim7.holds Tryd.pinned (.plain (OpenSpec.upto editSubsequencesSpec)) editSubsequencesUptoCard

/-- THE SECOND FORM's CARD OF 'ablautlaw17.EditLists'. -/
def editListsUptoCard : Claim7 := { stood := { row := editListsUptoRow, standIns := [], harness := (true, "afe5bbe106398cd9cd67dd048aec4c741dfcb00040ef3a1f6b32584d5db75a0e"), looks := false }, kinds := [], alts := [], laidByText := true, laidKinds := [.data], laidTests := true, laidLooks := .later }
def EditListsUptoCardSaid : Prop := Claim7.holds Tryd.pinned (.plain (OpenSpec.upto editListsSpec)) editListsUptoCard

/-- THE SECOND FORM's CARD OF 'ablautlaw17.EditNearest'. -/
def editNearestUptoCard : Claim7 := { stood := { row := editNearestUptoRow, standIns := [], harness := (true, "afe5bbe106398cd9cd67dd048aec4c741dfcb00040ef3a1f6b32584d5db75a0e"), looks := false }, kinds := [], alts := [], laidByText := true, laidKinds := [.data], laidTests := true, laidLooks := .later }
def EditNearestUptoCardSaid : Prop := Claim7.holds Tryd.pinned (.plain (OpenSpec.upto editNearestSpec)) editNearestUptoCard

/-- THE SECOND FORM's CARD OF 'ablautlaw17.EditKnown'. -/
def editKnownUptoCard : Claim7 := { stood := { row := editKnownUptoRow, standIns := [], harness := (true, "afe5bbe106398cd9cd67dd048aec4c741dfcb00040ef3a1f6b32584d5db75a0e"), looks := false }, kinds := [], alts := [], laidByText := true, laidKinds := [.data], laidTests := true, laidLooks := .later }
def EditKnownUptoCardSaid : Prop := Claim7.holds Tryd.pinned (.plain (OpenSpec.upto editKnownSpec)) editKnownUptoCard
end Rows
end Go.Proofs.YtedfogpnmpmggaaDoor
