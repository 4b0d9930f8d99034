/-
  DERIVED. GIVEN WITH THE SEED: THE CARDS: each row of YtpbbnmjkbfbelaaDoorRows.lean that lists a variable, with what it lists TIED to the program's text (the seventh form; the later family's looks); each row that meets fmt, with fmt's text TOLD by the authors' own Lean function (tested against real Go, not proved from fmt's source: count such statements apart). THE CARD IS WHAT COUNTS. Prove the row's statement (the work); the ties are given (YtpbbnmjkbfbelaaDoorTie.lean); close each card by the builder's one call (the guide's Derived/Test/ToyasCard.lean, 'card_holds'). Laid BY PROGRAM, IN A SANDBOX (cutbox-door.mjs). By AI agents, Wed Nov 11 2026. No macro, syntax, notation, axiom, sorry.
-/
import Derived.Test.YtpbbnmjkbfbelaaDoorRows
import GoSem.ClaimSeven
namespace Go.Proofs.YtpbbnmjkbfbelaaDoor
namespace Rows

/-- THE TIED CARD OF 'ablautlaw30.AnalogySolves'. -/
def analogySolvesCard : Claim7 := { stood := { row := analogySolvesRow, standIns := [], harness := (true, "0e8efc18f4f016596635a4ebdede4c84d43fbe35cbf0d14a1e28b45916986308"), looks := false }, kinds := [], alts := [], laidByText := true, laidKinds := [.funcs, .funcs], laidTests := true, laidLooks := .later }
def AnalogySolvesCardSaid : Prop := Claim7.holds Tryd.pinned (.plain (OpenSpec.ofChange analogySolvesSpec)) analogySolvesCard

/-- THE TIED CARD OF 'ablautlaw30.AnalogyExtends'. -/
def analogyExtendsCard : Claim7 := { stood := { row := analogyExtendsRow, standIns := [], harness := (true, "0e8efc18f4f016596635a4ebdede4c84d43fbe35cbf0d14a1e28b45916986308"), looks := false }, kinds := [], alts := [], laidByText := true, laidKinds := [.funcs, .funcs], laidTests := true, laidLooks := .later }
def AnalogyExtendsCardSaid : Prop := Claim7.holds Tryd.pinned (.plain (OpenSpec.ofChange analogyExtendsSpec)) analogyExtendsCard

/-- THE TIED CARD OF 'ablautlaw30.AnalogyLevels'. -/
def analogyLevelsCard : Claim7 := { stood := { row := analogyLevelsRow, standIns := [], harness := (true, "0e8efc18f4f016596635a4ebdede4c84d43fbe35cbf0d14a1e28b45916986308"), looks := false }, kinds := [], alts := [], laidByText := true, laidKinds := [.funcs, .funcs], laidTests := true, laidLooks := .later }
def AnalogyLevelsCardSaid : Prop := Claim7.holds Tryd.pinned (.plain (OpenSpec.ofChange analogyLevelsSpec)) analogyLevelsCard

/-- THE TIED CARD OF 'ablautlaw30.AnalogyNone'. -/
def analogyNoneCard : Claim7 := { stood := { row := analogyNoneRow, standIns := [], harness := (true, "0e8efc18f4f016596635a4ebdede4c84d43fbe35cbf0d14a1e28b45916986308"), looks := false }, kinds := [], alts := [], laidByText := true, laidKinds := [.funcs, .funcs], laidTests := true, laidLooks := .later }
def AnalogyNoneCardSaid : Prop := Claim7.holds Tryd.pinned (.plain (OpenSpec.ofChange analogyNoneSpec)) analogyNoneCard

/-- THE TIED CARD OF 'ablautlaw30.AnalogyLevel'. -/
def analogyLevelCard : Claim7 := { stood := { row := analogyLevelRow, standIns := [], harness := (true, "0e8efc18f4f016596635a4ebdede4c84d43fbe35cbf0d14a1e28b45916986308"), looks := false }, kinds := [], alts := [], laidByText := true, laidKinds := [.funcs, .funcs], laidTests := true, laidLooks := .later }
def AnalogyLevelCardSaid : Prop := Claim7.holds Tryd.pinned (.plain (OpenSpec.ofChange analogyLevelSpec)) analogyLevelCard

/-- THE TIED CARD OF 'ablautlaw30.AnalogyHolds'. -/
def analogyHoldsCard : Claim7 := { stood := { row := analogyHoldsRow, standIns := [], harness := (true, "0e8efc18f4f016596635a4ebdede4c84d43fbe35cbf0d14a1e28b45916986308"), looks := false }, kinds := [], alts := [], laidByText := true, laidKinds := [.funcs, .funcs], laidTests := true, laidLooks := .later }
def AnalogyHoldsCardSaid : Prop := Claim7.holds Tryd.pinned (.plain (OpenSpec.ofChange analogyHoldsSpec)) analogyHoldsCard

/-- THE TIED CARD OF 'ablautlaw30.AnalogyEnds'. -/
def analogyEndsCard : Claim7 := { stood := { row := analogyEndsRow, standIns := [], harness := (true, "0e8efc18f4f016596635a4ebdede4c84d43fbe35cbf0d14a1e28b45916986308"), looks := false }, kinds := [], alts := [], laidByText := true, laidKinds := [.funcs, .funcs], laidTests := true, laidLooks := .later }
def AnalogyEndsCardSaid : Prop := Claim7.holds Tryd.pinned (.plain (OpenSpec.ofChange analogyEndsSpec)) analogyEndsCard

/-- THE TIED CARD OF 'ablautlaw30.AnalogyCounts'. -/
def analogyCountsCard : Claim7 := { stood := { row := analogyCountsRow, standIns := [], harness := (true, "0e8efc18f4f016596635a4ebdede4c84d43fbe35cbf0d14a1e28b45916986308"), looks := false }, kinds := [], alts := [], laidByText := true, laidKinds := [.funcs, .funcs], laidTests := true, laidLooks := .later }
def AnalogyCountsCardSaid : Prop := Claim7.holds Tryd.pinned (.plain (OpenSpec.ofChange analogyCountsSpec)) analogyCountsCard

/-- THE TIED CARD OF 'ablautlaw30.AnalogyMost'. -/
def analogyMostCard : Claim7 := { stood := { row := analogyMostRow, standIns := [], harness := (true, "0e8efc18f4f016596635a4ebdede4c84d43fbe35cbf0d14a1e28b45916986308"), looks := false }, kinds := [], alts := [], laidByText := true, laidKinds := [.funcs, .funcs], laidTests := true, laidLooks := .later }
def AnalogyMostCardSaid : Prop := Claim7.holds Tryd.pinned (.plain (OpenSpec.ofChange analogyMostSpec)) analogyMostCard

/-- THE TIED CARD OF 'ablautlaw30.AnalogyMirror'. -/
def analogyMirrorCard : Claim7 := { stood := { row := analogyMirrorRow, standIns := [], harness := (true, "0e8efc18f4f016596635a4ebdede4c84d43fbe35cbf0d14a1e28b45916986308"), looks := false }, kinds := [], alts := [], laidByText := true, laidKinds := [.funcs, .funcs], laidTests := true, laidLooks := .later }
def AnalogyMirrorCardSaid : Prop := Claim7.holds Tryd.pinned (.plain (OpenSpec.ofChange analogyMirrorSpec)) analogyMirrorCard

/-- THE TIED CARD OF 'ablautlaw30.AnalogySums'. -/
def analogySumsCard : Claim7 := { stood := { row := analogySumsRow, standIns := [], harness := (true, "0e8efc18f4f016596635a4ebdede4c84d43fbe35cbf0d14a1e28b45916986308"), looks := false }, kinds := [], alts := [], laidByText := true, laidKinds := [.funcs, .funcs], laidTests := true, laidLooks := .later }
def AnalogySumsCardSaid : Prop := Claim7.holds Tryd.pinned (.plain (OpenSpec.ofChange analogySumsSpec)) analogySumsCard

/-- THE SECOND FORM's CARD OF 'ablautlaw30.AnalogySolves'. -/
def analogySolvesUptoCard : Claim7 := { stood := { row := analogySolvesUptoRow, standIns := [], harness := (true, "0e8efc18f4f016596635a4ebdede4c84d43fbe35cbf0d14a1e28b45916986308"), looks := false }, kinds := [], alts := [], laidByText := true, laidKinds := [.funcs, .funcs], laidTests := true, laidLooks := .later }
def AnalogySolvesUptoCardSaid : Prop := Claim7.holds Tryd.pinned (.plain (OpenSpec.upto analogySolvesSpec)) analogySolvesUptoCard

/-- THE SECOND FORM's CARD OF 'ablautlaw30.AnalogyExtends'. -/
def analogyExtendsUptoCard : Claim7 := { stood := { row := analogyExtendsUptoRow, standIns := [], harness := (true, "0e8efc18f4f016596635a4ebdede4c84d43fbe35cbf0d14a1e28b45916986308"), looks := false }, kinds := [], alts := [], laidByText := true, laidKinds := [.funcs, .funcs], laidTests := true, laidLooks := .later }
def AnalogyExtendsUptoCardSaid : Prop := Claim7.holds Tryd.pinned (.plain (OpenSpec.upto analogyExtendsSpec)) analogyExtendsUptoCard

/-- THE SECOND FORM's CARD OF 'ablautlaw30.AnalogyLevels'. -/
def analogyLevelsUptoCard : Claim7 := { stood := { row := analogyLevelsUptoRow, standIns := [], harness := (true, "0e8efc18f4f016596635a4ebdede4c84d43fbe35cbf0d14a1e28b45916986308"), looks := false }, kinds := [], alts := [], laidByText := true, laidKinds := [.funcs, .funcs], laidTests := true, laidLooks := .later }
def AnalogyLevelsUptoCardSaid : Prop := Claim7.holds Tryd.pinned (.plain (OpenSpec.upto analogyLevelsSpec)) analogyLevelsUptoCard

/-- THE SECOND FORM's CARD OF 'ablautlaw30.AnalogyNone'. -/
def analogyNoneUptoCard : Claim7 := { stood := { row := analogyNoneUptoRow, standIns := [], harness := (true, "0e8efc18f4f016596635a4ebdede4c84d43fbe35cbf0d14a1e28b45916986308"), looks := false }, kinds := [], alts := [], laidByText := true, laidKinds := [.funcs, .funcs], laidTests := true, laidLooks := .later }
def AnalogyNoneUptoCardSaid : Prop := Claim7.holds Tryd.pinned (.plain (OpenSpec.upto analogyNoneSpec)) analogyNoneUptoCard

/-- THE SECOND FORM's CARD OF 'ablautlaw30.AnalogyLevel'. -/
def analogyLevelUptoCard : Claim7 := { stood := { row := analogyLevelUptoRow, standIns := [], harness := (true, "0e8efc18f4f016596635a4ebdede4c84d43fbe35cbf0d14a1e28b45916986308"), looks := false }, kinds := [], alts := [], laidByText := true, laidKinds := [.funcs, .funcs], laidTests := true, laidLooks := .later }
def AnalogyLevelUptoCardSaid : Prop := Claim7.holds Tryd.pinned (.plain (OpenSpec.upto analogyLevelSpec)) analogyLevelUptoCard

/-- THE SECOND FORM's CARD OF 'ablautlaw30.AnalogyHolds'. -/
def analogyHoldsUptoCard : Claim7 := { stood := { row := analogyHoldsUptoRow, standIns := [], harness := (true, "0e8efc18f4f016596635a4ebdede4c84d43fbe35cbf0d14a1e28b45916986308"), looks := false }, kinds := [], alts := [], laidByText := true, laidKinds := [.funcs, .funcs], laidTests := true, laidLooks := .later }
def AnalogyHoldsUptoCardSaid : Prop := Claim7.holds Tryd.pinned (.plain (OpenSpec.upto analogyHoldsSpec)) analogyHoldsUptoCard

/-- THE SECOND FORM's CARD OF 'ablautlaw30.AnalogyEnds'. -/
def analogyEndsUptoCard : Claim7 := { stood := { row := analogyEndsUptoRow, standIns := [], harness := (true, "0e8efc18f4f016596635a4ebdede4c84d43fbe35cbf0d14a1e28b45916986308"), looks := false }, kinds := [], alts := [], laidByText := true, laidKinds := [.funcs, .funcs], laidTests := true, laidLooks := .later }
def AnalogyEndsUptoCardSaid : Prop := Claim7.holds Tryd.pinned (.plain (OpenSpec.upto analogyEndsSpec)) analogyEndsUptoCard

/-- THE SECOND FORM's CARD OF 'ablautlaw30.AnalogyCounts'. -/
def analogyCountsUptoCard : Claim7 := { stood := { row := analogyCountsUptoRow, standIns := [], harness := (true, "0e8efc18f4f016596635a4ebdede4c84d43fbe35cbf0d14a1e28b45916986308"), looks := false }, kinds := [], alts := [], laidByText := true, laidKinds := [.funcs, .funcs], laidTests := true, laidLooks := .later }
def AnalogyCountsUptoCardSaid : Prop := Claim7.holds Tryd.pinned (.plain (OpenSpec.upto analogyCountsSpec)) analogyCountsUptoCard

/-- THE SECOND FORM's CARD OF 'ablautlaw30.AnalogyMost'. -/
def analogyMostUptoCard : Claim7 := { stood := { row := analogyMostUptoRow, standIns := [], harness := (true, "0e8efc18f4f016596635a4ebdede4c84d43fbe35cbf0d14a1e28b45916986308"), looks := false }, kinds := [], alts := [], laidByText := true, laidKinds := [.funcs, .funcs], laidTests := true, laidLooks := .later }
def AnalogyMostUptoCardSaid : Prop := Claim7.holds Tryd.pinned (.plain (OpenSpec.upto analogyMostSpec)) analogyMostUptoCard

/-- THE SECOND FORM's CARD OF 'ablautlaw30.AnalogyMirror'. -/
def analogyMirrorUptoCard : Claim7 := { stood := { row := analogyMirrorUptoRow, standIns := [], harness := (true, "0e8efc18f4f016596635a4ebdede4c84d43fbe35cbf0d14a1e28b45916986308"), looks := false }, kinds := [], alts := [], laidByText := true, laidKinds := [.funcs, .funcs], laidTests := true, laidLooks := .later }
def AnalogyMirrorUptoCardSaid : Prop := Claim7.holds Tryd.pinned (.plain (OpenSpec.upto analogyMirrorSpec)) analogyMirrorUptoCard

/-- THE SECOND FORM's CARD OF 'ablautlaw30.AnalogySums'. -/
def analogySumsUptoCard : Claim7 := { stood := { row := analogySumsUptoRow, standIns := [], harness := (true, "0e8efc18f4f016596635a4ebdede4c84d43fbe35cbf0d14a1e28b45916986308"), looks := false }, kinds := [], alts := [], laidByText := true, laidKinds := [.funcs, .funcs], laidTests := true, laidLooks := .later }
def AnalogySumsUptoCardSaid : Prop := Claim7.holds Tryd.pinned (.plain (OpenSpec.upto analogySumsSpec)) analogySumsUptoCard
end Rows
end Go.Proofs.YtpbbnmjkbfbelaaDoor
