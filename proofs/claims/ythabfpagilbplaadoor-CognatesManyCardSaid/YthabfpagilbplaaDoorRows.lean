/-
  NARROWER THAN 'FOR EVERY INPUT', by the rows' own cells (each row's printed sentence says how): CognatesLabels: laid · CognatesCompares: laid · CognatesFiner: laid · CognatesExtremes: laid · CognatesLimits: laid · CognatesShares: laid · CognatesTurned: laid · CognatesSets: laid · CognatesClasses: laid · CognatesTables: laid · CognatesRows: laid · CognatesMany: laid.
  DERIVED. THE GIVEN ROWS OF THIS SEAT. 12 by the template 'for every input the law returns true; each argument reads behind the call as it read before'; 0 by the template 'total and deterministic' (their statements: YthabfpagilbplaaDoorTotals.lean).
  GIVEN WITH THE SEED: the statements are not yours to turn. If you find one false, say at which input.
  Laid BY PROGRAM, IN A SANDBOX (cutbox-rows.mjs): the forced cells as the released guide's own fill.sh prints them over the translation 56afcbde6ed37dea… (all of the seat's roots in one cut). By AI agents, Wed Nov 11 2026. No macro, syntax, notation, axiom, sorry.
-/
import Derived.Test.YthabfpagilbplaaDoorChecked
import GoSem.Claim
import GoSem.ClaimJoined
import GoSem.ClaimMapViews
import Derived.JoinedTies
import Derived.KernelRfl
namespace Go.Proofs.YthabfpagilbplaaDoor
/- THE CELL 'sum', in the pinned program and in every row, IS THE sha256 OF THE DUMP (.gsa) THAT YthabfpagilbplaaDoorProg.lean LOADS. Nothing in Lean hashes anything: it is a label: what it is worth is what the hold of that sum in a sandbox is worth. -/
noncomputable def Tryd.pinned : Pinned := { name := "ythabfpagilbplaadoor", sum := "56afcbde6ed37dea5d61ec4ee5af77cf424def2155b303b6f7aaedc2b67353bb", checked := Tryd.checked }
namespace Rows
def none {H : Type} : Left H := { results := [], args := [] }

/- WHAT THE LISTED PACKAGE-LEVEL VARIABLES READ AS WHEN THE CALL BEGINS. Each datum BY PROGRAM (the guide's laid-datum.mjs) off the statement by which the dump's own 'gosem.cut.vars' lays the variable. In a bare row this is a premise. The card (YthabfpagilbplaaDoorCards.lean) ties it to the program's text. -/
def laid_math_bits_deBruijn32tab {H : Type} : DataW H := .agg [.lit (.int .u8 0), .lit (.int .u8 1), .lit (.int .u8 28), .lit (.int .u8 2), .lit (.int .u8 29), .lit (.int .u8 14), .lit (.int .u8 24), .lit (.int .u8 3), .lit (.int .u8 30), .lit (.int .u8 22), .lit (.int .u8 20), .lit (.int .u8 15), .lit (.int .u8 25), .lit (.int .u8 17), .lit (.int .u8 4), .lit (.int .u8 8), .lit (.int .u8 31), .lit (.int .u8 27), .lit (.int .u8 13), .lit (.int .u8 23), .lit (.int .u8 21), .lit (.int .u8 19), .lit (.int .u8 16), .lit (.int .u8 7), .lit (.int .u8 26), .lit (.int .u8 12), .lit (.int .u8 18), .lit (.int .u8 6), .lit (.int .u8 11), .lit (.int .u8 5), .lit (.int .u8 10), .lit (.int .u8 9)]

/-- 'ablautlaw19.CognatesLabels': WHATEVER THE INPUT: true; the input reads as it did. -/
def cognatesLabelsSpec : ChangeSpec := { name := "cognatesLabels", fn := fun _ => fun
  | [d1, d2, d3] => { results := [.lit (.bool true)], args := [d1, d2, d3] }
  | _ => none }
def cognatesLabelsRow : OpenClaim := { program := "ythabfpagilbplaadoor", sum := "56afcbde6ed37dea5d61ec4ee5af77cf424def2155b303b6f7aaedc2b67353bb", func := "ablaut/ablautlaw19.CognatesLabels", spec := "cognatesLabels", unfollowed := true, recurses := true, named := ["math/bits.deBruijn32tab"], plainKeys := false, apart := false, laid := [("math/bits.deBruijn32tab", laid_math_bits_deBruijn32tab)] }
def CognatesLabelsSaid : Prop := cognatesLabelsRow.holds Tryd.pinned (OpenSpec.ofChange cognatesLabelsSpec)

/-- ITS FALSE NEIGHBOUR: 'it returns false'. Refute it at one input. -/
def cognatesLabelsWrong : ChangeSpec := { name := "cognatesLabels", fn := fun _ => fun
  | [d1, d2, d3] => { results := [.lit (.bool false)], args := [d1, d2, d3] }
  | _ => none }
def CognatesLabelsWrongFalsely : Prop := cognatesLabelsRow.holds Tryd.pinned (OpenSpec.ofChange cognatesLabelsWrong)

/-- 'ablautlaw19.CognatesCompares': WHATEVER THE INPUT: true; the input reads as it did. -/
def cognatesComparesSpec : ChangeSpec := { name := "cognatesCompares", fn := fun _ => fun
  | [d1, d2] => { results := [.lit (.bool true)], args := [d1, d2] }
  | _ => none }
def cognatesComparesRow : OpenClaim := { program := "ythabfpagilbplaadoor", sum := "56afcbde6ed37dea5d61ec4ee5af77cf424def2155b303b6f7aaedc2b67353bb", func := "ablaut/ablautlaw19.CognatesCompares", spec := "cognatesCompares", unfollowed := true, recurses := true, named := ["math/bits.deBruijn32tab"], plainKeys := false, apart := false, laid := [("math/bits.deBruijn32tab", laid_math_bits_deBruijn32tab)] }
def CognatesComparesSaid : Prop := cognatesComparesRow.holds Tryd.pinned (OpenSpec.ofChange cognatesComparesSpec)

/-- ITS FALSE NEIGHBOUR: 'it returns false'. Refute it at one input. -/
def cognatesComparesWrong : ChangeSpec := { name := "cognatesCompares", fn := fun _ => fun
  | [d1, d2] => { results := [.lit (.bool false)], args := [d1, d2] }
  | _ => none }
def CognatesComparesWrongFalsely : Prop := cognatesComparesRow.holds Tryd.pinned (OpenSpec.ofChange cognatesComparesWrong)

/-- 'ablautlaw19.CognatesFiner': WHATEVER THE INPUT: true; the input reads as it did. -/
def cognatesFinerSpec : ChangeSpec := { name := "cognatesFiner", fn := fun _ => fun
  | [d1, d2, d3, d4] => { results := [.lit (.bool true)], args := [d1, d2, d3, d4] }
  | _ => none }
def cognatesFinerRow : OpenClaim := { program := "ythabfpagilbplaadoor", sum := "56afcbde6ed37dea5d61ec4ee5af77cf424def2155b303b6f7aaedc2b67353bb", func := "ablaut/ablautlaw19.CognatesFiner", spec := "cognatesFiner", unfollowed := true, recurses := true, named := ["math/bits.deBruijn32tab"], plainKeys := false, apart := false, laid := [("math/bits.deBruijn32tab", laid_math_bits_deBruijn32tab)] }
def CognatesFinerSaid : Prop := cognatesFinerRow.holds Tryd.pinned (OpenSpec.ofChange cognatesFinerSpec)

/-- ITS FALSE NEIGHBOUR: 'it returns false'. Refute it at one input. -/
def cognatesFinerWrong : ChangeSpec := { name := "cognatesFiner", fn := fun _ => fun
  | [d1, d2, d3, d4] => { results := [.lit (.bool false)], args := [d1, d2, d3, d4] }
  | _ => none }
def CognatesFinerWrongFalsely : Prop := cognatesFinerRow.holds Tryd.pinned (OpenSpec.ofChange cognatesFinerWrong)

/-- 'ablautlaw19.CognatesExtremes': WHATEVER THE INPUT: true; the input reads as it did. -/
def cognatesExtremesSpec : ChangeSpec := { name := "cognatesExtremes", fn := fun _ => fun
  | [d1, d2] => { results := [.lit (.bool true)], args := [d1, d2] }
  | _ => none }
def cognatesExtremesRow : OpenClaim := { program := "ythabfpagilbplaadoor", sum := "56afcbde6ed37dea5d61ec4ee5af77cf424def2155b303b6f7aaedc2b67353bb", func := "ablaut/ablautlaw19.CognatesExtremes", spec := "cognatesExtremes", unfollowed := true, recurses := true, named := ["math/bits.deBruijn32tab"], plainKeys := false, apart := false, laid := [("math/bits.deBruijn32tab", laid_math_bits_deBruijn32tab)] }
def CognatesExtremesSaid : Prop := cognatesExtremesRow.holds Tryd.pinned (OpenSpec.ofChange cognatesExtremesSpec)

/-- ITS FALSE NEIGHBOUR: 'it returns false'. Refute it at one input. -/
def cognatesExtremesWrong : ChangeSpec := { name := "cognatesExtremes", fn := fun _ => fun
  | [d1, d2] => { results := [.lit (.bool false)], args := [d1, d2] }
  | _ => none }
def CognatesExtremesWrongFalsely : Prop := cognatesExtremesRow.holds Tryd.pinned (OpenSpec.ofChange cognatesExtremesWrong)

/-- 'ablautlaw19.CognatesLimits': WHATEVER THE INPUT: true; the input reads as it did. -/
def cognatesLimitsSpec : ChangeSpec := { name := "cognatesLimits", fn := fun _ => fun
  | [d1, d2, d3, d4, d5] => { results := [.lit (.bool true)], args := [d1, d2, d3, d4, d5] }
  | _ => none }
def cognatesLimitsRow : OpenClaim := { program := "ythabfpagilbplaadoor", sum := "56afcbde6ed37dea5d61ec4ee5af77cf424def2155b303b6f7aaedc2b67353bb", func := "ablaut/ablautlaw19.CognatesLimits", spec := "cognatesLimits", unfollowed := true, recurses := true, named := ["math/bits.deBruijn32tab"], plainKeys := false, apart := false, laid := [("math/bits.deBruijn32tab", laid_math_bits_deBruijn32tab)] }
def CognatesLimitsSaid : Prop := cognatesLimitsRow.holds Tryd.pinned (OpenSpec.ofChange cognatesLimitsSpec)

/-- ITS FALSE NEIGHBOUR: 'it returns false'. Refute it at one input. -/
def cognatesLimitsWrong : ChangeSpec := { name := "cognatesLimits", fn := fun _ => fun
  | [d1, d2, d3, d4, d5] => { results := [.lit (.bool false)], args := [d1, d2, d3, d4, d5] }
  | _ => none }
def CognatesLimitsWrongFalsely : Prop := cognatesLimitsRow.holds Tryd.pinned (OpenSpec.ofChange cognatesLimitsWrong)

/-- 'ablautlaw19.CognatesShares': WHATEVER THE INPUT: true; the input reads as it did. -/
def cognatesSharesSpec : ChangeSpec := { name := "cognatesShares", fn := fun _ => fun
  | [d1, d2, d3] => { results := [.lit (.bool true)], args := [d1, d2, d3] }
  | _ => none }
def cognatesSharesRow : OpenClaim := { program := "ythabfpagilbplaadoor", sum := "56afcbde6ed37dea5d61ec4ee5af77cf424def2155b303b6f7aaedc2b67353bb", func := "ablaut/ablautlaw19.CognatesShares", spec := "cognatesShares", unfollowed := true, recurses := true, named := ["math/bits.deBruijn32tab"], plainKeys := false, apart := false, laid := [("math/bits.deBruijn32tab", laid_math_bits_deBruijn32tab)] }
def CognatesSharesSaid : Prop := cognatesSharesRow.holds Tryd.pinned (OpenSpec.ofChange cognatesSharesSpec)

/-- ITS FALSE NEIGHBOUR: 'it returns false'. Refute it at one input. -/
def cognatesSharesWrong : ChangeSpec := { name := "cognatesShares", fn := fun _ => fun
  | [d1, d2, d3] => { results := [.lit (.bool false)], args := [d1, d2, d3] }
  | _ => none }
def CognatesSharesWrongFalsely : Prop := cognatesSharesRow.holds Tryd.pinned (OpenSpec.ofChange cognatesSharesWrong)

/-- 'ablautlaw19.CognatesTurned': WHATEVER THE INPUT: true; the input reads as it did. -/
def cognatesTurnedSpec : ChangeSpec := { name := "cognatesTurned", fn := fun _ => fun
  | [d1, d2, d3, d4] => { results := [.lit (.bool true)], args := [d1, d2, d3, d4] }
  | _ => none }
def cognatesTurnedRow : OpenClaim := { program := "ythabfpagilbplaadoor", sum := "56afcbde6ed37dea5d61ec4ee5af77cf424def2155b303b6f7aaedc2b67353bb", func := "ablaut/ablautlaw19.CognatesTurned", spec := "cognatesTurned", unfollowed := true, recurses := true, named := ["math/bits.deBruijn32tab"], plainKeys := false, apart := false, laid := [("math/bits.deBruijn32tab", laid_math_bits_deBruijn32tab)] }
def CognatesTurnedSaid : Prop := cognatesTurnedRow.holds Tryd.pinned (OpenSpec.ofChange cognatesTurnedSpec)

/-- ITS FALSE NEIGHBOUR: 'it returns false'. Refute it at one input. -/
def cognatesTurnedWrong : ChangeSpec := { name := "cognatesTurned", fn := fun _ => fun
  | [d1, d2, d3, d4] => { results := [.lit (.bool false)], args := [d1, d2, d3, d4] }
  | _ => none }
def CognatesTurnedWrongFalsely : Prop := cognatesTurnedRow.holds Tryd.pinned (OpenSpec.ofChange cognatesTurnedWrong)

/-- 'ablautlaw19.CognatesSets': WHATEVER THE INPUT: true; the input reads as it did. -/
def cognatesSetsSpec : ChangeSpec := { name := "cognatesSets", fn := fun _ => fun
  | [d] => { results := [.lit (.bool true)], args := [d] }
  | _ => none }
def cognatesSetsRow : OpenClaim := { program := "ythabfpagilbplaadoor", sum := "56afcbde6ed37dea5d61ec4ee5af77cf424def2155b303b6f7aaedc2b67353bb", func := "ablaut/ablautlaw19.CognatesSets", spec := "cognatesSets", unfollowed := true, recurses := true, named := ["math/bits.deBruijn32tab"], plainKeys := false, apart := false, laid := [("math/bits.deBruijn32tab", laid_math_bits_deBruijn32tab)] }
def CognatesSetsSaid : Prop := cognatesSetsRow.holds Tryd.pinned (OpenSpec.ofChange cognatesSetsSpec)

/-- ITS FALSE NEIGHBOUR: 'it returns false'. Refute it at one input. -/
def cognatesSetsWrong : ChangeSpec := { name := "cognatesSets", fn := fun _ => fun
  | [d] => { results := [.lit (.bool false)], args := [d] }
  | _ => none }
def CognatesSetsWrongFalsely : Prop := cognatesSetsRow.holds Tryd.pinned (OpenSpec.ofChange cognatesSetsWrong)

/-- 'ablautlaw19.CognatesClasses': WHATEVER THE INPUT: true; the input reads as it did. -/
def cognatesClassesSpec : ChangeSpec := { name := "cognatesClasses", fn := fun _ => fun
  | [d] => { results := [.lit (.bool true)], args := [d] }
  | _ => none }
def cognatesClassesRow : OpenClaim := { program := "ythabfpagilbplaadoor", sum := "56afcbde6ed37dea5d61ec4ee5af77cf424def2155b303b6f7aaedc2b67353bb", func := "ablaut/ablautlaw19.CognatesClasses", spec := "cognatesClasses", unfollowed := true, recurses := true, named := ["math/bits.deBruijn32tab"], plainKeys := false, apart := false, laid := [("math/bits.deBruijn32tab", laid_math_bits_deBruijn32tab)] }
def CognatesClassesSaid : Prop := cognatesClassesRow.holds Tryd.pinned (OpenSpec.ofChange cognatesClassesSpec)

/-- ITS FALSE NEIGHBOUR: 'it returns false'. Refute it at one input. -/
def cognatesClassesWrong : ChangeSpec := { name := "cognatesClasses", fn := fun _ => fun
  | [d] => { results := [.lit (.bool false)], args := [d] }
  | _ => none }
def CognatesClassesWrongFalsely : Prop := cognatesClassesRow.holds Tryd.pinned (OpenSpec.ofChange cognatesClassesWrong)

/-- 'ablautlaw19.CognatesTables': WHATEVER THE INPUT: true; the input reads as it did. -/
def cognatesTablesSpec : ChangeSpec := { name := "cognatesTables", fn := fun _ => fun
  | [d1, d2, d3] => { results := [.lit (.bool true)], args := [d1, d2, d3] }
  | _ => none }
def cognatesTablesRow : OpenClaim := { program := "ythabfpagilbplaadoor", sum := "56afcbde6ed37dea5d61ec4ee5af77cf424def2155b303b6f7aaedc2b67353bb", func := "ablaut/ablautlaw19.CognatesTables", spec := "cognatesTables", unfollowed := true, recurses := true, named := ["math/bits.deBruijn32tab"], plainKeys := false, apart := false, laid := [("math/bits.deBruijn32tab", laid_math_bits_deBruijn32tab)] }
def CognatesTablesSaid : Prop := cognatesTablesRow.holds Tryd.pinned (OpenSpec.ofChange cognatesTablesSpec)

/-- ITS FALSE NEIGHBOUR: 'it returns false'. Refute it at one input. -/
def cognatesTablesWrong : ChangeSpec := { name := "cognatesTables", fn := fun _ => fun
  | [d1, d2, d3] => { results := [.lit (.bool false)], args := [d1, d2, d3] }
  | _ => none }
def CognatesTablesWrongFalsely : Prop := cognatesTablesRow.holds Tryd.pinned (OpenSpec.ofChange cognatesTablesWrong)

/-- 'ablautlaw19.CognatesRows': WHATEVER THE INPUT: true; the input reads as it did. -/
def cognatesRowsSpec : ChangeSpec := { name := "cognatesRows", fn := fun _ => fun
  | [d1, d2, d3, d4, d5, d6] => { results := [.lit (.bool true)], args := [d1, d2, d3, d4, d5, d6] }
  | _ => none }
def cognatesRowsRow : OpenClaim := { program := "ythabfpagilbplaadoor", sum := "56afcbde6ed37dea5d61ec4ee5af77cf424def2155b303b6f7aaedc2b67353bb", func := "ablaut/ablautlaw19.CognatesRows", spec := "cognatesRows", unfollowed := true, recurses := true, named := ["math/bits.deBruijn32tab"], plainKeys := false, apart := false, laid := [("math/bits.deBruijn32tab", laid_math_bits_deBruijn32tab)] }
def CognatesRowsSaid : Prop := cognatesRowsRow.holds Tryd.pinned (OpenSpec.ofChange cognatesRowsSpec)

/-- ITS FALSE NEIGHBOUR: 'it returns false'. Refute it at one input. -/
def cognatesRowsWrong : ChangeSpec := { name := "cognatesRows", fn := fun _ => fun
  | [d1, d2, d3, d4, d5, d6] => { results := [.lit (.bool false)], args := [d1, d2, d3, d4, d5, d6] }
  | _ => none }
def CognatesRowsWrongFalsely : Prop := cognatesRowsRow.holds Tryd.pinned (OpenSpec.ofChange cognatesRowsWrong)

/-- 'ablautlaw19.CognatesMany': WHATEVER THE INPUT: true; the input reads as it did. -/
def cognatesManySpec : ChangeSpec := { name := "cognatesMany", fn := fun _ => fun
  | [d1, d2] => { results := [.lit (.bool true)], args := [d1, d2] }
  | _ => none }
def cognatesManyRow : OpenClaim := { program := "ythabfpagilbplaadoor", sum := "56afcbde6ed37dea5d61ec4ee5af77cf424def2155b303b6f7aaedc2b67353bb", func := "ablaut/ablautlaw19.CognatesMany", spec := "cognatesMany", unfollowed := true, recurses := true, named := ["math/bits.deBruijn32tab"], plainKeys := false, apart := false, laid := [("math/bits.deBruijn32tab", laid_math_bits_deBruijn32tab)] }
def CognatesManySaid : Prop := cognatesManyRow.holds Tryd.pinned (OpenSpec.ofChange cognatesManySpec)

/-- ITS FALSE NEIGHBOUR: 'it returns false'. Refute it at one input. -/
def cognatesManyWrong : ChangeSpec := { name := "cognatesMany", fn := fun _ => fun
  | [d1, d2] => { results := [.lit (.bool false)], args := [d1, d2] }
  | _ => none }
def CognatesManyWrongFalsely : Prop := cognatesManyRow.holds Tryd.pinned (OpenSpec.ofChange cognatesManyWrong)

/- THE SECOND FORM. 'bulk': how many values and letters a reading holds, each counted each time it is reached (what is shared counts as often as it is met; a slice's spare places count too). A statement '..UptoSaid' is the law's where the arguments, and the package variables that the reading takes, are together of bulk at most 1048576: NARROWER than '..Said'. Prove '..Said' where nothing that the law and all that it calls make is longer than what came in: it says more and counts as full. Else prove '..UptoSaid'. A law counts once. -/
mutual
def uptoBulk {H : Type} : DataW H → Nat
  | .lit (.string bytes) => bytes.length + 1
  | .lit _ => 1
  | .nil => 1
  | .ptr d => uptoBulk d + 1
  | .slice elems spare => uptoBulkAll elems + uptoBulkAll spare + 1
  | .agg parts => uptoBulkAll parts + 1
  | .iface _ d => uptoBulk d + 1
  | .map entries => uptoBulkEntries entries + 1
  | .held _ => 1
def uptoBulkAll {H : Type} : List (DataW H) → Nat
  | [] => 0
  | d :: r => uptoBulk d + uptoBulkAll r
def uptoBulkEntries {H : Type} : List (Lit × DataW H) → Nat
  | [] => 0
  | x :: r => uptoBulkEntry x + uptoBulkEntries r
def uptoBulkEntry {H : Type} : Lit × DataW H → Nat
  | (.string bytes, d) => bytes.length + uptoBulk d + 1
  | (_, d) => uptoBulk d + 1
 end
def uptoSmall : (H : Type) → List (DataW H) → Bool := fun _ ds => decide (uptoBulkAll ds ≤ 1048576)
def OpenSpec.upto (s : _root_.Go.ChangeSpec) : _root_.Go.OpenSpec := { _root_.Go.OpenSpec.ofChange s with cond := some uptoSmall }

/-- 'ablautlaw19.CognatesLabels', WHERE WHAT IT READS IS OF BULK AT MOST 1048576: true; the input reads as it did. -/
def cognatesLabelsUptoRow : OpenClaim := { program := "ythabfpagilbplaadoor", sum := "56afcbde6ed37dea5d61ec4ee5af77cf424def2155b303b6f7aaedc2b67353bb", func := "ablaut/ablautlaw19.CognatesLabels", spec := "cognatesLabels", unfollowed := true, recurses := true, named := ["math/bits.deBruijn32tab"], plainKeys := false, apart := false, laid := [("math/bits.deBruijn32tab", laid_math_bits_deBruijn32tab)], narrowed := true }
def CognatesLabelsUptoSaid : Prop := cognatesLabelsUptoRow.holds Tryd.pinned (OpenSpec.upto cognatesLabelsSpec)

/-- 'ablautlaw19.CognatesCompares', WHERE WHAT IT READS IS OF BULK AT MOST 1048576: true; the input reads as it did. -/
def cognatesComparesUptoRow : OpenClaim := { program := "ythabfpagilbplaadoor", sum := "56afcbde6ed37dea5d61ec4ee5af77cf424def2155b303b6f7aaedc2b67353bb", func := "ablaut/ablautlaw19.CognatesCompares", spec := "cognatesCompares", unfollowed := true, recurses := true, named := ["math/bits.deBruijn32tab"], plainKeys := false, apart := false, laid := [("math/bits.deBruijn32tab", laid_math_bits_deBruijn32tab)], narrowed := true }
def CognatesComparesUptoSaid : Prop := cognatesComparesUptoRow.holds Tryd.pinned (OpenSpec.upto cognatesComparesSpec)

/-- 'ablautlaw19.CognatesFiner', WHERE WHAT IT READS IS OF BULK AT MOST 1048576: true; the input reads as it did. -/
def cognatesFinerUptoRow : OpenClaim := { program := "ythabfpagilbplaadoor", sum := "56afcbde6ed37dea5d61ec4ee5af77cf424def2155b303b6f7aaedc2b67353bb", func := "ablaut/ablautlaw19.CognatesFiner", spec := "cognatesFiner", unfollowed := true, recurses := true, named := ["math/bits.deBruijn32tab"], plainKeys := false, apart := false, laid := [("math/bits.deBruijn32tab", laid_math_bits_deBruijn32tab)], narrowed := true }
def CognatesFinerUptoSaid : Prop := cognatesFinerUptoRow.holds Tryd.pinned (OpenSpec.upto cognatesFinerSpec)

/-- 'ablautlaw19.CognatesExtremes', WHERE WHAT IT READS IS OF BULK AT MOST 1048576: true; the input reads as it did. -/
def cognatesExtremesUptoRow : OpenClaim := { program := "ythabfpagilbplaadoor", sum := "56afcbde6ed37dea5d61ec4ee5af77cf424def2155b303b6f7aaedc2b67353bb", func := "ablaut/ablautlaw19.CognatesExtremes", spec := "cognatesExtremes", unfollowed := true, recurses := true, named := ["math/bits.deBruijn32tab"], plainKeys := false, apart := false, laid := [("math/bits.deBruijn32tab", laid_math_bits_deBruijn32tab)], narrowed := true }
def CognatesExtremesUptoSaid : Prop := cognatesExtremesUptoRow.holds Tryd.pinned (OpenSpec.upto cognatesExtremesSpec)

/-- 'ablautlaw19.CognatesLimits', WHERE WHAT IT READS IS OF BULK AT MOST 1048576: true; the input reads as it did. -/
def cognatesLimitsUptoRow : OpenClaim := { program := "ythabfpagilbplaadoor", sum := "56afcbde6ed37dea5d61ec4ee5af77cf424def2155b303b6f7aaedc2b67353bb", func := "ablaut/ablautlaw19.CognatesLimits", spec := "cognatesLimits", unfollowed := true, recurses := true, named := ["math/bits.deBruijn32tab"], plainKeys := false, apart := false, laid := [("math/bits.deBruijn32tab", laid_math_bits_deBruijn32tab)], narrowed := true }
def CognatesLimitsUptoSaid : Prop := cognatesLimitsUptoRow.holds Tryd.pinned (OpenSpec.upto cognatesLimitsSpec)

/-- 'ablautlaw19.CognatesShares', WHERE WHAT IT READS IS OF BULK AT MOST 1048576: true; the input reads as it did. -/
def cognatesSharesUptoRow : OpenClaim := { program := "ythabfpagilbplaadoor", sum := "56afcbde6ed37dea5d61ec4ee5af77cf424def2155b303b6f7aaedc2b67353bb", func := "ablaut/ablautlaw19.CognatesShares", spec := "cognatesShares", unfollowed := true, recurses := true, named := ["math/bits.deBruijn32tab"], plainKeys := false, apart := false, laid := [("math/bits.deBruijn32tab", laid_math_bits_deBruijn32tab)], narrowed := true }
def CognatesSharesUptoSaid : Prop := cognatesSharesUptoRow.holds Tryd.pinned (OpenSpec.upto cognatesSharesSpec)

/-- 'ablautlaw19.CognatesTurned', WHERE WHAT IT READS IS OF BULK AT MOST 1048576: true; the input reads as it did. -/
def cognatesTurnedUptoRow : OpenClaim := { program := "ythabfpagilbplaadoor", sum := "56afcbde6ed37dea5d61ec4ee5af77cf424def2155b303b6f7aaedc2b67353bb", func := "ablaut/ablautlaw19.CognatesTurned", spec := "cognatesTurned", unfollowed := true, recurses := true, named := ["math/bits.deBruijn32tab"], plainKeys := false, apart := false, laid := [("math/bits.deBruijn32tab", laid_math_bits_deBruijn32tab)], narrowed := true }
def CognatesTurnedUptoSaid : Prop := cognatesTurnedUptoRow.holds Tryd.pinned (OpenSpec.upto cognatesTurnedSpec)

/-- 'ablautlaw19.CognatesSets', WHERE WHAT IT READS IS OF BULK AT MOST 1048576: true; the input reads as it did. -/
def cognatesSetsUptoRow : OpenClaim := { program := "ythabfpagilbplaadoor", sum := "56afcbde6ed37dea5d61ec4ee5af77cf424def2155b303b6f7aaedc2b67353bb", func := "ablaut/ablautlaw19.CognatesSets", spec := "cognatesSets", unfollowed := true, recurses := true, named := ["math/bits.deBruijn32tab"], plainKeys := false, apart := false, laid := [("math/bits.deBruijn32tab", laid_math_bits_deBruijn32tab)], narrowed := true }
def CognatesSetsUptoSaid : Prop := cognatesSetsUptoRow.holds Tryd.pinned (OpenSpec.upto cognatesSetsSpec)

/-- 'ablautlaw19.CognatesClasses', WHERE WHAT IT READS IS OF BULK AT MOST 1048576: true; the input reads as it did. -/
def cognatesClassesUptoRow : OpenClaim := { program := "ythabfpagilbplaadoor", sum := "56afcbde6ed37dea5d61ec4ee5af77cf424def2155b303b6f7aaedc2b67353bb", func := "ablaut/ablautlaw19.CognatesClasses", spec := "cognatesClasses", unfollowed := true, recurses := true, named := ["math/bits.deBruijn32tab"], plainKeys := false, apart := false, laid := [("math/bits.deBruijn32tab", laid_math_bits_deBruijn32tab)], narrowed := true }
def CognatesClassesUptoSaid : Prop := cognatesClassesUptoRow.holds Tryd.pinned (OpenSpec.upto cognatesClassesSpec)

/-- 'ablautlaw19.CognatesTables', WHERE WHAT IT READS IS OF BULK AT MOST 1048576: true; the input reads as it did. -/
def cognatesTablesUptoRow : OpenClaim := { program := "ythabfpagilbplaadoor", sum := "56afcbde6ed37dea5d61ec4ee5af77cf424def2155b303b6f7aaedc2b67353bb", func := "ablaut/ablautlaw19.CognatesTables", spec := "cognatesTables", unfollowed := true, recurses := true, named := ["math/bits.deBruijn32tab"], plainKeys := false, apart := false, laid := [("math/bits.deBruijn32tab", laid_math_bits_deBruijn32tab)], narrowed := true }
def CognatesTablesUptoSaid : Prop := cognatesTablesUptoRow.holds Tryd.pinned (OpenSpec.upto cognatesTablesSpec)

/-- 'ablautlaw19.CognatesRows', WHERE WHAT IT READS IS OF BULK AT MOST 1048576: true; the input reads as it did. -/
def cognatesRowsUptoRow : OpenClaim := { program := "ythabfpagilbplaadoor", sum := "56afcbde6ed37dea5d61ec4ee5af77cf424def2155b303b6f7aaedc2b67353bb", func := "ablaut/ablautlaw19.CognatesRows", spec := "cognatesRows", unfollowed := true, recurses := true, named := ["math/bits.deBruijn32tab"], plainKeys := false, apart := false, laid := [("math/bits.deBruijn32tab", laid_math_bits_deBruijn32tab)], narrowed := true }
def CognatesRowsUptoSaid : Prop := cognatesRowsUptoRow.holds Tryd.pinned (OpenSpec.upto cognatesRowsSpec)

/-- 'ablautlaw19.CognatesMany', WHERE WHAT IT READS IS OF BULK AT MOST 1048576: true; the input reads as it did. -/
def cognatesManyUptoRow : OpenClaim := { program := "ythabfpagilbplaadoor", sum := "56afcbde6ed37dea5d61ec4ee5af77cf424def2155b303b6f7aaedc2b67353bb", func := "ablaut/ablautlaw19.CognatesMany", spec := "cognatesMany", unfollowed := true, recurses := true, named := ["math/bits.deBruijn32tab"], plainKeys := false, apart := false, laid := [("math/bits.deBruijn32tab", laid_math_bits_deBruijn32tab)], narrowed := true }
def CognatesManyUptoSaid : Prop := cognatesManyUptoRow.holds Tryd.pinned (OpenSpec.upto cognatesManySpec)

end Rows
end Go.Proofs.YthabfpagilbplaaDoor
