/-
  DERIVED. GIVEN WITH THE SEED: THE CARDS: each row of YtialbhieaipcgaaDoorRows.lean that lists a variable, with what it lists TIED to the program's text (the seventh form; the later family's looks); each row that meets fmt, with fmt's text TOLD by the authors' own Lean function (tested against real Go, not proved from fmt's source: count such statements apart). THE CARD IS WHAT COUNTS. Prove the row's statement (the work); the ties are given (YtialbhieaipcgaaDoorTie.lean); close each card by the builder's one call (the guide's Derived/Test/ToyasCard.lean, 'card_holds'). Laid BY PROGRAM, IN A SANDBOX (cutbox-door.mjs). By AI agents, Wed Nov 11 2026. No macro, syntax, notation, axiom, sorry.
-/
import Derived.Test.YtialbhieaipcgaaDoorRows
import GoSem.ClaimSeven
namespace Go.Proofs.YtialbhieaipcgaaDoor
namespace Rows

/-- THE TIED CARD OF 'ablautlaw18.MultiScores'. -/
def multiScoresCard : Claim7 := { stood := { row := multiScoresRow, standIns := [], harness := (true, "9a77b33697a57e2dd38154b015add442cf2b6e8c5519e984bd1cf7a00083c174"), looks := false }, kinds := [], alts := [], laidByText := true, laidKinds := [.data, .funcs], laidTests := true, laidLooks := .later }
def MultiScoresCardSaid : Prop := Claim7.holds Tryd.pinned (.plain (OpenSpec.ofChange multiScoresSpec)) multiScoresCard

/-- THE TIED CARD OF 'ablautlaw18.MultiAligns'. -/
def multiAlignsCard : Claim7 := { stood := { row := multiAlignsRow, standIns := [], harness := (true, "9a77b33697a57e2dd38154b015add442cf2b6e8c5519e984bd1cf7a00083c174"), looks := false }, kinds := [], alts := [], laidByText := true, laidKinds := [.data, .funcs], laidTests := true, laidLooks := .later }
def MultiAlignsCardSaid : Prop := Claim7.holds Tryd.pinned (.plain (OpenSpec.ofChange multiAlignsSpec)) multiAlignsCard

/-- THE TIED CARD OF 'ablautlaw18.MultiExacts'. -/
def multiExactsCard : Claim7 := { stood := { row := multiExactsRow, standIns := [], harness := (true, "9a77b33697a57e2dd38154b015add442cf2b6e8c5519e984bd1cf7a00083c174"), looks := false }, kinds := [], alts := [], laidByText := true, laidKinds := [.data, .funcs], laidTests := true, laidLooks := .later }
def MultiExactsCardSaid : Prop := Claim7.holds Tryd.pinned (.plain (OpenSpec.ofChange multiExactsSpec)) multiExactsCard

/-- THE TIED CARD OF 'ablautlaw18.MultiExact'. -/
def multiExactCard : Claim7 := { stood := { row := multiExactRow, standIns := [], harness := (true, "9a77b33697a57e2dd38154b015add442cf2b6e8c5519e984bd1cf7a00083c174"), looks := false }, kinds := [], alts := [], laidByText := true, laidKinds := [.data, .funcs], laidTests := true, laidLooks := .later }
def MultiExactCardSaid : Prop := Claim7.holds Tryd.pinned (.plain (OpenSpec.ofChange multiExactSpec)) multiExactCard

/-- THE TIED CARD OF 'ablautlaw18.MultiSums'. -/
def multiSumsCard : Claim7 := { stood := { row := multiSumsRow, standIns := [], harness := (true, "9a77b33697a57e2dd38154b015add442cf2b6e8c5519e984bd1cf7a00083c174"), looks := false }, kinds := [], alts := [], laidByText := true, laidKinds := [.data, .funcs], laidTests := true, laidLooks := .later }
def MultiSumsCardSaid : Prop := Claim7.holds Tryd.pinned (.plain (OpenSpec.ofChange multiSumsSpec)) multiSumsCard

/-- THE TIED CARD OF 'ablautlaw18.MultiAdds'. -/
def multiAddsCard : Claim7 := { stood := { row := multiAddsRow, standIns := [], harness := (true, "9a77b33697a57e2dd38154b015add442cf2b6e8c5519e984bd1cf7a00083c174"), looks := false }, kinds := [], alts := [], laidByText := true, laidKinds := [.data, .funcs], laidTests := true, laidLooks := .later }
def MultiAddsCardSaid : Prop := Claim7.holds Tryd.pinned (.plain (OpenSpec.ofChange multiAddsSpec)) multiAddsCard

/-- THE TIED CARD OF 'ablautlaw18.MultiAdded'. -/
def multiAddedCard : Claim7 := { stood := { row := multiAddedRow, standIns := [], harness := (true, "9a77b33697a57e2dd38154b015add442cf2b6e8c5519e984bd1cf7a00083c174"), looks := false }, kinds := [], alts := [], laidByText := true, laidKinds := [.data, .funcs], laidTests := true, laidLooks := .later }
def MultiAddedCardSaid : Prop := Claim7.holds Tryd.pinned (.plain (OpenSpec.ofChange multiAddedSpec)) multiAddedCard

/-- THE TIED CARD OF 'ablautlaw18.MultiRefines'. -/
def multiRefinesCard : Claim7 := { stood := { row := multiRefinesRow, standIns := [], harness := (true, "9a77b33697a57e2dd38154b015add442cf2b6e8c5519e984bd1cf7a00083c174"), looks := false }, kinds := [], alts := [], laidByText := true, laidKinds := [.data, .funcs], laidTests := true, laidLooks := .later }
def MultiRefinesCardSaid : Prop := Claim7.holds Tryd.pinned (.plain (OpenSpec.ofChange multiRefinesSpec)) multiRefinesCard

/-- THE TIED CARD OF 'ablautlaw18.MultiRefined'. -/
def multiRefinedCard : Claim7 := { stood := { row := multiRefinedRow, standIns := [], harness := (true, "9a77b33697a57e2dd38154b015add442cf2b6e8c5519e984bd1cf7a00083c174"), looks := false }, kinds := [], alts := [], laidByText := true, laidKinds := [.data, .funcs], laidTests := true, laidLooks := .later }
def MultiRefinedCardSaid : Prop := Claim7.holds Tryd.pinned (.plain (OpenSpec.ofChange multiRefinedSpec)) multiRefinedCard

/-- THE TIED CARD OF 'ablautlaw18.MultiChecks'. -/
def multiChecksCard : Claim7 := { stood := { row := multiChecksRow, standIns := [], harness := (true, "9a77b33697a57e2dd38154b015add442cf2b6e8c5519e984bd1cf7a00083c174"), looks := false }, kinds := [], alts := [], laidByText := true, laidKinds := [.data, .funcs], laidTests := true, laidLooks := .later }
def MultiChecksCardSaid : Prop := Claim7.holds Tryd.pinned (.plain (OpenSpec.ofChange multiChecksSpec)) multiChecksCard

/-- THE TIED CARD OF 'ablautlaw18.MultiRows'. -/
def multiRowsCard : Claim7 := { stood := { row := multiRowsRow, standIns := [], harness := (true, "9a77b33697a57e2dd38154b015add442cf2b6e8c5519e984bd1cf7a00083c174"), looks := false }, kinds := [], alts := [], laidByText := true, laidKinds := [.data, .funcs], laidTests := true, laidLooks := .later }
def MultiRowsCardSaid : Prop := Claim7.holds Tryd.pinned (.plain (OpenSpec.ofChange multiRowsSpec)) multiRowsCard

/-- THE TIED CARD OF 'ablautlaw18.MultiKnown'. -/
def multiKnownCard : Claim7 := { stood := { row := multiKnownRow, standIns := [], harness := (true, "9a77b33697a57e2dd38154b015add442cf2b6e8c5519e984bd1cf7a00083c174"), looks := false }, kinds := [], alts := [], laidByText := true, laidKinds := [.data, .funcs], laidTests := true, laidLooks := .later }
def MultiKnownCardSaid : Prop := Claim7.holds Tryd.pinned (.plain (OpenSpec.ofChange multiKnownSpec)) multiKnownCard

/-- THE SECOND FORM's CARD OF 'ablautlaw18.MultiScores'. -/
def multiScoresUptoCard : Claim7 := { stood := { row := multiScoresUptoRow, standIns := [], harness := (true, "9a77b33697a57e2dd38154b015add442cf2b6e8c5519e984bd1cf7a00083c174"), looks := false }, kinds := [], alts := [], laidByText := true, laidKinds := [.data, .funcs], laidTests := true, laidLooks := .later }
def MultiScoresUptoCardSaid : Prop := Claim7.holds Tryd.pinned (.plain (OpenSpec.upto multiScoresSpec)) multiScoresUptoCard

/-- THE SECOND FORM's CARD OF 'ablautlaw18.MultiAligns'. -/
def multiAlignsUptoCard : Claim7 := { stood := { row := multiAlignsUptoRow, standIns := [], harness := (true, "9a77b33697a57e2dd38154b015add442cf2b6e8c5519e984bd1cf7a00083c174"), looks := false }, kinds := [], alts := [], laidByText := true, laidKinds := [.data, .funcs], laidTests := true, laidLooks := .later }
def MultiAlignsUptoCardSaid : Prop := Claim7.holds Tryd.pinned (.plain (OpenSpec.upto multiAlignsSpec)) multiAlignsUptoCard

/-- THE SECOND FORM's CARD OF 'ablautlaw18.MultiExacts'. -/
def multiExactsUptoCard : Claim7 := { stood := { row := multiExactsUptoRow, standIns := [], harness := (true, "9a77b33697a57e2dd38154b015add442cf2b6e8c5519e984bd1cf7a00083c174"), looks := false }, kinds := [], alts := [], laidByText := true, laidKinds := [.data, .funcs], laidTests := true, laidLooks := .later }
def MultiExactsUptoCardSaid : Prop := Claim7.holds Tryd.pinned (.plain (OpenSpec.upto multiExactsSpec)) multiExactsUptoCard

/-- THE SECOND FORM's CARD OF 'ablautlaw18.MultiExact'. -/
def multiExactUptoCard : Claim7 := { stood := { row := multiExactUptoRow, standIns := [], harness := (true, "9a77b33697a57e2dd38154b015add442cf2b6e8c5519e984bd1cf7a00083c174"), looks := false }, kinds := [], alts := [], laidByText := true, laidKinds := [.data, .funcs], laidTests := true, laidLooks := .later }
def MultiExactUptoCardSaid : Prop := Claim7.holds Tryd.pinned (.plain (OpenSpec.upto multiExactSpec)) multiExactUptoCard

/-- THE SECOND FORM's CARD OF 'ablautlaw18.MultiSums'. -/
def multiSumsUptoCard : Claim7 := { stood := { row := multiSumsUptoRow, standIns := [], harness := (true, "9a77b33697a57e2dd38154b015add442cf2b6e8c5519e984bd1cf7a00083c174"), looks := false }, kinds := [], alts := [], laidByText := true, laidKinds := [.data, .funcs], laidTests := true, laidLooks := .later }
def MultiSumsUptoCardSaid : Prop := Claim7.holds Tryd.pinned (.plain (OpenSpec.upto multiSumsSpec)) multiSumsUptoCard

/-- THE SECOND FORM's CARD OF 'ablautlaw18.MultiAdds'. -/
def multiAddsUptoCard : Claim7 := { stood := { row := multiAddsUptoRow, standIns := [], harness := (true, "9a77b33697a57e2dd38154b015add442cf2b6e8c5519e984bd1cf7a00083c174"), looks := false }, kinds := [], alts := [], laidByText := true, laidKinds := [.data, .funcs], laidTests := true, laidLooks := .later }
def MultiAddsUptoCardSaid : Prop := Claim7.holds Tryd.pinned (.plain (OpenSpec.upto multiAddsSpec)) multiAddsUptoCard

/-- THE SECOND FORM's CARD OF 'ablautlaw18.MultiAdded'. -/
def multiAddedUptoCard : Claim7 := { stood := { row := multiAddedUptoRow, standIns := [], harness := (true, "9a77b33697a57e2dd38154b015add442cf2b6e8c5519e984bd1cf7a00083c174"), looks := false }, kinds := [], alts := [], laidByText := true, laidKinds := [.data, .funcs], laidTests := true, laidLooks := .later }
def MultiAddedUptoCardSaid : Prop := Claim7.holds Tryd.pinned (.plain (OpenSpec.upto multiAddedSpec)) multiAddedUptoCard

/-- THE SECOND FORM's CARD OF 'ablautlaw18.MultiRefines'. -/
def multiRefinesUptoCard : Claim7 := { stood := { row := multiRefinesUptoRow, standIns := [], harness := (true, "9a77b33697a57e2dd38154b015add442cf2b6e8c5519e984bd1cf7a00083c174"), looks := false }, kinds := [], alts := [], laidByText := true, laidKinds := [.data, .funcs], laidTests := true, laidLooks := .later }
def MultiRefinesUptoCardSaid : Prop := Claim7.holds Tryd.pinned (.plain (OpenSpec.upto multiRefinesSpec)) multiRefinesUptoCard

/-- THE SECOND FORM's CARD OF 'ablautlaw18.MultiRefined'. -/
def multiRefinedUptoCard : Claim7 := { stood := { row := multiRefinedUptoRow, standIns := [], harness := (true, "9a77b33697a57e2dd38154b015add442cf2b6e8c5519e984bd1cf7a00083c174"), looks := false }, kinds := [], alts := [], laidByText := true, laidKinds := [.data, .funcs], laidTests := true, laidLooks := .later }
def MultiRefinedUptoCardSaid : Prop := Claim7.holds Tryd.pinned (.plain (OpenSpec.upto multiRefinedSpec)) multiRefinedUptoCard

/-- THE SECOND FORM's CARD OF 'ablautlaw18.MultiChecks'. -/
def multiChecksUptoCard : Claim7 := { stood := { row := multiChecksUptoRow, standIns := [], harness := (true, "9a77b33697a57e2dd38154b015add442cf2b6e8c5519e984bd1cf7a00083c174"), looks := false }, kinds := [], alts := [], laidByText := true, laidKinds := [.data, .funcs], laidTests := true, laidLooks := .later }
def MultiChecksUptoCardSaid : Prop := Claim7.holds Tryd.pinned (.plain (OpenSpec.upto multiChecksSpec)) multiChecksUptoCard

/-- THE SECOND FORM's CARD OF 'ablautlaw18.MultiRows'. -/
def multiRowsUptoCard : Claim7 := { stood := { row := multiRowsUptoRow, standIns := [], harness := (true, "9a77b33697a57e2dd38154b015add442cf2b6e8c5519e984bd1cf7a00083c174"), looks := false }, kinds := [], alts := [], laidByText := true, laidKinds := [.data, .funcs], laidTests := true, laidLooks := .later }
def MultiRowsUptoCardSaid : Prop := Claim7.holds Tryd.pinned (.plain (OpenSpec.upto multiRowsSpec)) multiRowsUptoCard

/-- THE SECOND FORM's CARD OF 'ablautlaw18.MultiKnown'. -/
def multiKnownUptoCard : Claim7 := { stood := { row := multiKnownUptoRow, standIns := [], harness := (true, "9a77b33697a57e2dd38154b015add442cf2b6e8c5519e984bd1cf7a00083c174"), looks := false }, kinds := [], alts := [], laidByText := true, laidKinds := [.data, .funcs], laidTests := true, laidLooks := .later }
def MultiKnownUptoCardSaid : Prop := Claim7.holds Tryd.pinned (.plain (OpenSpec.upto multiKnownSpec)) multiKnownUptoCard
end Rows
end Go.Proofs.YtialbhieaipcgaaDoor
