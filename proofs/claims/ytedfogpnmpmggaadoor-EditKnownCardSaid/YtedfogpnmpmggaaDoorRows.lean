/-
  NARROWER THAN 'FOR EVERY INPUT', by the rows' own cells (each row's printed sentence says how): EditAligns: laid · EditScores: laid · EditLongest: laid · EditMetric: laid · EditAligned: laid · EditGrows: laid · EditSubsequences: laid · EditLists: laid · EditNearest: laid · EditKnown: laid.
  DERIVED. THE GIVEN ROWS OF THIS SEAT. 10 by the template 'for every input the law returns true; each argument reads behind the call as it read before'; 0 by the template 'total and deterministic' (their statements: YtedfogpnmpmggaaDoorTotals.lean).
  GIVEN WITH THE SEED: the statements are not yours to turn. If you find one false, say at which input.
  Laid BY PROGRAM, IN A SANDBOX (cutbox-rows.mjs): the forced cells as the released guide's own fill.sh prints them over the translation a71220d2b3e7f406… (all of the seat's roots in one cut). By AI agents, Wed Nov 11 2026. No macro, syntax, notation, axiom, sorry.
-/
import Derived.Test.YtedfogpnmpmggaaDoorChecked
import GoSem.Claim
import GoSem.ClaimJoined
import GoSem.ClaimMapViews
import Derived.JoinedTies
import Derived.KernelRfl
namespace Go.Proofs.YtedfogpnmpmggaaDoor
/- THE CELL 'sum', in the pinned program and in every row, IS THE sha256 OF THE DUMP (.gsa) THAT YtedfogpnmpmggaaDoorProg.lean LOADS. Nothing in Lean hashes anything: it is a label: what it is worth is what the hold of that sum in a sandbox is worth. -/
noncomputable def Tryd.pinned : Pinned := { name := "ytedfogpnmpmggaadoor", sum := "a71220d2b3e7f406f181aec674f9a1927d74e1d9ea8c819cfbfe005bae3f345a", checked := Tryd.checked }
namespace Rows
def none {H : Type} : Left H := { results := [], args := [] }

/- WHAT THE LISTED PACKAGE-LEVEL VARIABLES READ AS WHEN THE CALL BEGINS. Each datum BY PROGRAM (the guide's laid-datum.mjs) off the statement by which the dump's own 'gosem.cut.vars' lays the variable. In a bare row this is a premise. The card (YtedfogpnmpmggaaDoorCards.lean) ties it to the program's text. -/
def laid_math_bits_deBruijn32tab {H : Type} : DataW H := .agg [.lit (.int .u8 0), .lit (.int .u8 1), .lit (.int .u8 28), .lit (.int .u8 2), .lit (.int .u8 29), .lit (.int .u8 14), .lit (.int .u8 24), .lit (.int .u8 3), .lit (.int .u8 30), .lit (.int .u8 22), .lit (.int .u8 20), .lit (.int .u8 15), .lit (.int .u8 25), .lit (.int .u8 17), .lit (.int .u8 4), .lit (.int .u8 8), .lit (.int .u8 31), .lit (.int .u8 27), .lit (.int .u8 13), .lit (.int .u8 23), .lit (.int .u8 21), .lit (.int .u8 19), .lit (.int .u8 16), .lit (.int .u8 7), .lit (.int .u8 26), .lit (.int .u8 12), .lit (.int .u8 18), .lit (.int .u8 6), .lit (.int .u8 11), .lit (.int .u8 5), .lit (.int .u8 10), .lit (.int .u8 9)]

/-- 'ablautlaw17.EditAligns': WHATEVER THE INPUT: true; the input reads as it did. -/
def editAlignsSpec : ChangeSpec := { name := "editAligns", fn := fun _ => fun
  | [d] => { results := [.lit (.bool true)], args := [d] }
  | _ => none }
def editAlignsRow : OpenClaim := { program := "ytedfogpnmpmggaadoor", sum := "a71220d2b3e7f406f181aec674f9a1927d74e1d9ea8c819cfbfe005bae3f345a", func := "ablaut/ablautlaw17.EditAligns", spec := "editAligns", unfollowed := true, recurses := true, named := ["math/bits.deBruijn32tab"], apart := false, laid := [("math/bits.deBruijn32tab", laid_math_bits_deBruijn32tab)] }
def EditAlignsSaid : Prop := editAlignsRow.holds Tryd.pinned (OpenSpec.ofChange editAlignsSpec)

/-- ITS FALSE NEIGHBOUR: 'it returns false'. Refute it at one input. -/
def editAlignsWrong : ChangeSpec := { name := "editAligns", fn := fun _ => fun
  | [d] => { results := [.lit (.bool false)], args := [d] }
  | _ => none }
def EditAlignsWrongFalsely : Prop := editAlignsRow.holds Tryd.pinned (OpenSpec.ofChange editAlignsWrong)

/-- 'ablautlaw17.EditScores': WHATEVER THE INPUT: true; the input reads as it did. -/
def editScoresSpec : ChangeSpec := { name := "editScores", fn := fun _ => fun
  | [d1, d2] => { results := [.lit (.bool true)], args := [d1, d2] }
  | _ => none }
def editScoresRow : OpenClaim := { program := "ytedfogpnmpmggaadoor", sum := "a71220d2b3e7f406f181aec674f9a1927d74e1d9ea8c819cfbfe005bae3f345a", func := "ablaut/ablautlaw17.EditScores", spec := "editScores", unfollowed := true, recurses := true, named := ["math/bits.deBruijn32tab"], apart := false, laid := [("math/bits.deBruijn32tab", laid_math_bits_deBruijn32tab)] }
def EditScoresSaid : Prop := editScoresRow.holds Tryd.pinned (OpenSpec.ofChange editScoresSpec)

/-- ITS FALSE NEIGHBOUR: 'it returns false'. Refute it at one input. -/
def editScoresWrong : ChangeSpec := { name := "editScores", fn := fun _ => fun
  | [d1, d2] => { results := [.lit (.bool false)], args := [d1, d2] }
  | _ => none }
def EditScoresWrongFalsely : Prop := editScoresRow.holds Tryd.pinned (OpenSpec.ofChange editScoresWrong)

/-- 'ablautlaw17.EditLongest': WHATEVER THE INPUT: true; the input reads as it did. -/
def editLongestSpec : ChangeSpec := { name := "editLongest", fn := fun _ => fun
  | [d1, d2] => { results := [.lit (.bool true)], args := [d1, d2] }
  | _ => none }
def editLongestRow : OpenClaim := { program := "ytedfogpnmpmggaadoor", sum := "a71220d2b3e7f406f181aec674f9a1927d74e1d9ea8c819cfbfe005bae3f345a", func := "ablaut/ablautlaw17.EditLongest", spec := "editLongest", unfollowed := true, recurses := true, named := ["math/bits.deBruijn32tab"], apart := false, laid := [("math/bits.deBruijn32tab", laid_math_bits_deBruijn32tab)] }
def EditLongestSaid : Prop := editLongestRow.holds Tryd.pinned (OpenSpec.ofChange editLongestSpec)

/-- ITS FALSE NEIGHBOUR: 'it returns false'. Refute it at one input. -/
def editLongestWrong : ChangeSpec := { name := "editLongest", fn := fun _ => fun
  | [d1, d2] => { results := [.lit (.bool false)], args := [d1, d2] }
  | _ => none }
def EditLongestWrongFalsely : Prop := editLongestRow.holds Tryd.pinned (OpenSpec.ofChange editLongestWrong)

/-- 'ablautlaw17.EditMetric': WHATEVER THE INPUT: true; the input reads as it did. -/
def editMetricSpec : ChangeSpec := { name := "editMetric", fn := fun _ => fun
  | [d1, d2, d3, d4, d5] => { results := [.lit (.bool true)], args := [d1, d2, d3, d4, d5] }
  | _ => none }
def editMetricRow : OpenClaim := { program := "ytedfogpnmpmggaadoor", sum := "a71220d2b3e7f406f181aec674f9a1927d74e1d9ea8c819cfbfe005bae3f345a", func := "ablaut/ablautlaw17.EditMetric", spec := "editMetric", unfollowed := true, recurses := true, named := ["math/bits.deBruijn32tab"], apart := false, laid := [("math/bits.deBruijn32tab", laid_math_bits_deBruijn32tab)] }
def EditMetricSaid : Prop := editMetricRow.holds Tryd.pinned (OpenSpec.ofChange editMetricSpec)

/-- ITS FALSE NEIGHBOUR: 'it returns false'. Refute it at one input. -/
def editMetricWrong : ChangeSpec := { name := "editMetric", fn := fun _ => fun
  | [d1, d2, d3, d4, d5] => { results := [.lit (.bool false)], args := [d1, d2, d3, d4, d5] }
  | _ => none }
def EditMetricWrongFalsely : Prop := editMetricRow.holds Tryd.pinned (OpenSpec.ofChange editMetricWrong)

/-- 'ablautlaw17.EditAligned': WHATEVER THE INPUT: true; the input reads as it did. -/
def editAlignedSpec : ChangeSpec := { name := "editAligned", fn := fun _ => fun
  | [d1, d2, d3, d4, d5] => { results := [.lit (.bool true)], args := [d1, d2, d3, d4, d5] }
  | _ => none }
def editAlignedRow : OpenClaim := { program := "ytedfogpnmpmggaadoor", sum := "a71220d2b3e7f406f181aec674f9a1927d74e1d9ea8c819cfbfe005bae3f345a", func := "ablaut/ablautlaw17.EditAligned", spec := "editAligned", unfollowed := true, recurses := true, named := ["math/bits.deBruijn32tab"], apart := false, laid := [("math/bits.deBruijn32tab", laid_math_bits_deBruijn32tab)] }
def EditAlignedSaid : Prop := editAlignedRow.holds Tryd.pinned (OpenSpec.ofChange editAlignedSpec)

/-- ITS FALSE NEIGHBOUR: 'it returns false'. Refute it at one input. -/
def editAlignedWrong : ChangeSpec := { name := "editAligned", fn := fun _ => fun
  | [d1, d2, d3, d4, d5] => { results := [.lit (.bool false)], args := [d1, d2, d3, d4, d5] }
  | _ => none }
def EditAlignedWrongFalsely : Prop := editAlignedRow.holds Tryd.pinned (OpenSpec.ofChange editAlignedWrong)

/-- 'ablautlaw17.EditGrows': WHATEVER THE INPUT: true; the input reads as it did. -/
def editGrowsSpec : ChangeSpec := { name := "editGrows", fn := fun _ => fun
  | [d1, d2, d3, d4, d5] => { results := [.lit (.bool true)], args := [d1, d2, d3, d4, d5] }
  | _ => none }
def editGrowsRow : OpenClaim := { program := "ytedfogpnmpmggaadoor", sum := "a71220d2b3e7f406f181aec674f9a1927d74e1d9ea8c819cfbfe005bae3f345a", func := "ablaut/ablautlaw17.EditGrows", spec := "editGrows", unfollowed := true, recurses := true, named := ["math/bits.deBruijn32tab"], apart := false, laid := [("math/bits.deBruijn32tab", laid_math_bits_deBruijn32tab)] }
def EditGrowsSaid : Prop := editGrowsRow.holds Tryd.pinned (OpenSpec.ofChange editGrowsSpec)

/-- ITS FALSE NEIGHBOUR: 'it returns false'. Refute it at one input. -/
def editGrowsWrong : ChangeSpec := { name := "editGrows", fn := fun _ => fun
  | [d1, d2, d3, d4, d5] => { results := [.lit (.bool false)], args := [d1, d2, d3, d4, d5] }
  | _ => none }
def EditGrowsWrongFalsely : Prop := editGrowsRow.holds Tryd.pinned (OpenSpec.ofChange editGrowsWrong)

/-- 'ablautlaw17.EditSubsequences': WHATEVER THE INPUT: true; the input reads as it did. -/
def editSubsequencesSpec : ChangeSpec := { name := "editSubsequences", fn := fun _ => fun
  | [d1, d2, d3, d4] => { results := [.lit (.bool true)], args := [d1, d2, d3, d4] }
  | _ => none }
def editSubsequencesRow : OpenClaim := { program := "ytedfogpnmpmggaadoor", sum := "a71220d2b3e7f406f181aec674f9a1927d74e1d9ea8c819cfbfe005bae3f345a", func := "ablaut/ablautlaw17.EditSubsequences", spec := "editSubsequences", unfollowed := true, recurses := true, named := ["math/bits.deBruijn32tab"], apart := false, laid := [("math/bits.deBruijn32tab", laid_math_bits_deBruijn32tab)] }
def EditSubsequencesSaid : Prop := editSubsequencesRow.holds Tryd.pinned (OpenSpec.ofChange editSubsequencesSpec)

/-- ITS FALSE NEIGHBOUR: 'it returns false'. Refute it at one input. -/
def editSubsequencesWrong : ChangeSpec := { name := "editSubsequences", fn := fun _ => fun
  | [d1, d2, d3, d4] => { results := [.lit (.bool false)], args := [d1, d2, d3, d4] }
  | _ => none }
def EditSubsequencesWrongFalsely : Prop := editSubsequencesRow.holds Tryd.pinned (OpenSpec.ofChange editSubsequencesWrong)

/-- 'ablautlaw17.EditLists': WHATEVER THE INPUT: true; the input reads as it did. -/
def editListsSpec : ChangeSpec := { name := "editLists", fn := fun _ => fun
  | [d1, d2, d3, d4] => { results := [.lit (.bool true)], args := [d1, d2, d3, d4] }
  | _ => none }
def editListsRow : OpenClaim := { program := "ytedfogpnmpmggaadoor", sum := "a71220d2b3e7f406f181aec674f9a1927d74e1d9ea8c819cfbfe005bae3f345a", func := "ablaut/ablautlaw17.EditLists", spec := "editLists", unfollowed := true, recurses := true, named := ["math/bits.deBruijn32tab"], apart := false, laid := [("math/bits.deBruijn32tab", laid_math_bits_deBruijn32tab)] }
def EditListsSaid : Prop := editListsRow.holds Tryd.pinned (OpenSpec.ofChange editListsSpec)

/-- ITS FALSE NEIGHBOUR: 'it returns false'. Refute it at one input. -/
def editListsWrong : ChangeSpec := { name := "editLists", fn := fun _ => fun
  | [d1, d2, d3, d4] => { results := [.lit (.bool false)], args := [d1, d2, d3, d4] }
  | _ => none }
def EditListsWrongFalsely : Prop := editListsRow.holds Tryd.pinned (OpenSpec.ofChange editListsWrong)

/-- 'ablautlaw17.EditNearest': WHATEVER THE INPUT: true; the input reads as it did. -/
def editNearestSpec : ChangeSpec := { name := "editNearest", fn := fun _ => fun
  | [d1, d2, d3, d4] => { results := [.lit (.bool true)], args := [d1, d2, d3, d4] }
  | _ => none }
def editNearestRow : OpenClaim := { program := "ytedfogpnmpmggaadoor", sum := "a71220d2b3e7f406f181aec674f9a1927d74e1d9ea8c819cfbfe005bae3f345a", func := "ablaut/ablautlaw17.EditNearest", spec := "editNearest", unfollowed := true, recurses := true, named := ["math/bits.deBruijn32tab"], apart := false, laid := [("math/bits.deBruijn32tab", laid_math_bits_deBruijn32tab)] }
def EditNearestSaid : Prop := editNearestRow.holds Tryd.pinned (OpenSpec.ofChange editNearestSpec)

/-- ITS FALSE NEIGHBOUR: 'it returns false'. Refute it at one input. -/
def editNearestWrong : ChangeSpec := { name := "editNearest", fn := fun _ => fun
  | [d1, d2, d3, d4] => { results := [.lit (.bool false)], args := [d1, d2, d3, d4] }
  | _ => none }
def EditNearestWrongFalsely : Prop := editNearestRow.holds Tryd.pinned (OpenSpec.ofChange editNearestWrong)

/-- 'ablautlaw17.EditKnown': WHATEVER THE INPUT: true; the input reads as it did. -/
def editKnownSpec : ChangeSpec := { name := "editKnown", fn := fun _ => fun
  | [] => { results := [.lit (.bool true)], args := [] }
  | _ => none }
def editKnownRow : OpenClaim := { program := "ytedfogpnmpmggaadoor", sum := "a71220d2b3e7f406f181aec674f9a1927d74e1d9ea8c819cfbfe005bae3f345a", func := "ablaut/ablautlaw17.EditKnown", spec := "editKnown", unfollowed := true, recurses := true, named := ["math/bits.deBruijn32tab"], apart := false, laid := [("math/bits.deBruijn32tab", laid_math_bits_deBruijn32tab)] }
def EditKnownSaid : Prop := editKnownRow.holds Tryd.pinned (OpenSpec.ofChange editKnownSpec)

/-- ITS FALSE NEIGHBOUR: 'it returns false'. Refute it at one input. -/
def editKnownWrong : ChangeSpec := { name := "editKnown", fn := fun _ => fun
  | [] => { results := [.lit (.bool false)], args := [] }
  | _ => none }
def EditKnownWrongFalsely : Prop := editKnownRow.holds Tryd.pinned (OpenSpec.ofChange editKnownWrong)

/- THE SECOND FORM. 'bulk': how many values and letters a reading holds, each counted each time it is reached (what is shared counts as often as it is met; a slice's spare places count too). A statement '..UptoSaid' is the law's where the arguments, and the package variables that the reading takes, are together of bulk at most 1048576: NARROWER than '..Said'. Prove '..Said' where nothing that the law and all that it calls make is longer than what came in: it says more and counts as full. Else prove '..UptoSaid'. A law counts once. -/
mutual
def uptoBulk {H : Type} : DataW H → Nat
  | .lit (.string bytes) => bytes.length + 1
  | .lit _ => 1
  | .nil => 1
  | .ptr d => uptoBulk d + 1
  | .slice elems spare => uptoBulkAll elems + uptoBulkAll spare + 1
  | .agg parts => uptoBulkAll parts + 1
  | .iface _ d => uptoBulk d + 1
  | .map entries => uptoBulkEntries entries + 1
  | .held _ => 1
def uptoBulkAll {H : Type} : List (DataW H) → Nat
  | [] => 0
  | d :: r => uptoBulk d + uptoBulkAll r
def uptoBulkEntries {H : Type} : List (Lit × DataW H) → Nat
  | [] => 0
  | x :: r => uptoBulkEntry x + uptoBulkEntries r
def uptoBulkEntry {H : Type} : Lit × DataW H → Nat
  | (.string bytes, d) => bytes.length + uptoBulk d + 1
  | (_, d) => uptoBulk d + 1
 end
def uptoSmall : (H : Type) → List (DataW H) → Bool := fun _ ds => decide (uptoBulkAll ds ≤ 1048576)
def OpenSpec.upto (s : _root_.Go.ChangeSpec) : _root_.Go.OpenSpec := { _root_.Go.OpenSpec.ofChange s with cond := some uptoSmall }

/-- 'ablautlaw17.EditAligns', WHERE WHAT IT READS IS OF BULK AT MOST 1048576: true; the input reads as it did. -/
def editAlignsUptoRow : OpenClaim := { program := "ytedfogpnmpmggaadoor", sum := "a71220d2b3e7f406f181aec674f9a1927d74e1d9ea8c819cfbfe005bae3f345a", func := "ablaut/ablautlaw17.EditAligns", spec := "editAligns", unfollowed := true, recurses := true, named := ["math/bits.deBruijn32tab"], apart := false, laid := [("math/bits.deBruijn32tab", laid_math_bits_deBruijn32tab)], narrowed := true }
def EditAlignsUptoSaid : Prop := editAlignsUptoRow.holds Tryd.pinned (OpenSpec.upto editAlignsSpec)

/-- 'ablautlaw17.EditScores', WHERE WHAT IT READS IS OF BULK AT MOST 1048576: true; the input reads as it did. -/
def editScoresUptoRow : OpenClaim := { program := "ytedfogpnmpmggaadoor", sum := "a71220d2b3e7f406f181aec674f9a1927d74e1d9ea8c819cfbfe005bae3f345a", func := "ablaut/ablautlaw17.EditScores", spec := "editScores", unfollowed := true, recurses := true, named := ["math/bits.deBruijn32tab"], apart := false, laid := [("math/bits.deBruijn32tab", laid_math_bits_deBruijn32tab)], narrowed := true }
def EditScoresUptoSaid : Prop := editScoresUptoRow.holds Tryd.pinned (OpenSpec.upto editScoresSpec)

/-- 'ablautlaw17.EditLongest', WHERE WHAT IT READS IS OF BULK AT MOST 1048576: true; the input reads as it did. -/
def editLongestUptoRow : OpenClaim := { program := "ytedfogpnmpmggaadoor", sum := "a71220d2b3e7f406f181aec674f9a1927d74e1d9ea8c819cfbfe005bae3f345a", func := "ablaut/ablautlaw17.EditLongest", spec := "editLongest", unfollowed := true, recurses := true, named := ["math/bits.deBruijn32tab"], apart := false, laid := [("math/bits.deBruijn32tab", laid_math_bits_deBruijn32tab)], narrowed := true }
def EditLongestUptoSaid : Prop := editLongestUptoRow.holds Tryd.pinned (OpenSpec.upto editLongestSpec)

/-- 'ablautlaw17.EditMetric', WHERE WHAT IT READS IS OF BULK AT MOST 1048576: true; the input reads as it did. -/
def editMetricUptoRow : OpenClaim := { program := "ytedfogpnmpmggaadoor", sum := "a71220d2b3e7f406f181aec674f9a1927d74e1d9ea8c819cfbfe005bae3f345a", func := "ablaut/ablautlaw17.EditMetric", spec := "editMetric", unfollowed := true, recurses := true, named := ["math/bits.deBruijn32tab"], apart := false, laid := [("math/bits.deBruijn32tab", laid_math_bits_deBruijn32tab)], narrowed := true }
def EditMetricUptoSaid : Prop := editMetricUptoRow.holds Tryd.pinned (OpenSpec.upto editMetricSpec)

/-- 'ablautlaw17.EditAligned', WHERE WHAT IT READS IS OF BULK AT MOST 1048576: true; the input reads as it did. -/
def editAlignedUptoRow : OpenClaim := { program := "ytedfogpnmpmggaadoor", sum := "a71220d2b3e7f406f181aec674f9a1927d74e1d9ea8c819cfbfe005bae3f345a", func := "ablaut/ablautlaw17.EditAligned", spec := "editAligned", unfollowed := true, recurses := true, named := ["math/bits.deBruijn32tab"], apart := false, laid := [("math/bits.deBruijn32tab", laid_math_bits_deBruijn32tab)], narrowed := true }
def EditAlignedUptoSaid : Prop := editAlignedUptoRow.holds Tryd.pinned (OpenSpec.upto editAlignedSpec)

/-- 'ablautlaw17.EditGrows', WHERE WHAT IT READS IS OF BULK AT MOST 1048576: true; the input reads as it did. -/
def editGrowsUptoRow : OpenClaim := { program := "ytedfogpnmpmggaadoor", sum := "a71220d2b3e7f406f181aec674f9a1927d74e1d9ea8c819cfbfe005bae3f345a", func := "ablaut/ablautlaw17.EditGrows", spec := "editGrows", unfollowed := true, recurses := true, named := ["math/bits.deBruijn32tab"], apart := false, laid := [("math/bits.deBruijn32tab", laid_math_bits_deBruijn32tab)], narrowed := true }
def EditGrowsUptoSaid : Prop := editGrowsUptoRow.holds Tryd.pinned (OpenSpec.upto editGrowsSpec)

/-- 'ablautlaw17.EditSubsequences', WHERE WHAT IT READS IS OF BULK AT MOST 1048576: true; the input reads as it did. -/
def editSubsequencesUptoRow : OpenClaim := { program := "ytedfogpnmpmggaadoor", sum := "a71220d2b3e7f406f181aec674f9a1927d74e1d9ea8c819cfbfe005bae3f345a", func := "ablaut/ablautlaw17.EditSubsequences", spec := "editSubsequences", unfollowed := true, recurses := true, named := ["math/bits.deBruijn32tab"], apart := false, laid := [("math/bits.deBruijn32tab", laid_math_bits_deBruijn32tab)], narrowed := true }
def EditSubsequencesUptoSaid : Prop := editSubsequencesUptoRow.holds Tryd.pinned (OpenSpec.upto editSubsequencesSpec)

/-- 'ablautlaw17.EditLists', WHERE WHAT IT READS IS OF BULK AT MOST 1048576: true; the input reads as it did. -/
def editListsUptoRow : OpenClaim := { program := "ytedfogpnmpmggaadoor", sum := "a71220d2b3e7f406f181aec674f9a1927d74e1d9ea8c819cfbfe005bae3f345a", func := "ablaut/ablautlaw17.EditLists", spec := "editLists", unfollowed := true, recurses := true, named := ["math/bits.deBruijn32tab"], apart := false, laid := [("math/bits.deBruijn32tab", laid_math_bits_deBruijn32tab)], narrowed := true }
def EditListsUptoSaid : Prop := editListsUptoRow.holds Tryd.pinned (OpenSpec.upto editListsSpec)

/-- 'ablautlaw17.EditNearest', WHERE WHAT IT READS IS OF BULK AT MOST 1048576: true; the input reads as it did. -/
def editNearestUptoRow : OpenClaim := { program := "ytedfogpnmpmggaadoor", sum := "a71220d2b3e7f406f181aec674f9a1927d74e1d9ea8c819cfbfe005bae3f345a", func := "ablaut/ablautlaw17.EditNearest", spec := "editNearest", unfollowed := true, recurses := true, named := ["math/bits.deBruijn32tab"], apart := false, laid := [("math/bits.deBruijn32tab", laid_math_bits_deBruijn32tab)], narrowed := true }
def EditNearestUptoSaid : Prop := editNearestUptoRow.holds Tryd.pinned (OpenSpec.upto editNearestSpec)

/-- 'ablautlaw17.EditKnown', WHERE WHAT IT READS IS OF BULK AT MOST 1048576: true; the input reads as it did. -/
def editKnownUptoRow : OpenClaim := { program := "ytedfogpnmpmggaadoor", sum := "a71220d2b3e7f406f181aec674f9a1927d74e1d9ea8c819cfbfe005bae3f345a", func := "ablaut/ablautlaw17.EditKnown", spec := "editKnown", unfollowed := true, recurses := true, named := ["math/bits.deBruijn32tab"], apart := false, laid := [("math/bits.deBruijn32tab", laid_math_bits_deBruijn32tab)], narrowed := true }
def EditKnownUptoSaid : Prop := editKnownUptoRow.holds Tryd.pinned (OpenSpec.upto editKnownSpec)

end Rows
end Go.Proofs.YtedfogpnmpmggaaDoor
