/-
  NARROWER THAN 'FOR EVERY INPUT', by the rows' own cells (each row's printed sentence says how): FeatsValues: laid · FeatsPairs: laid · FeatsCosts: laid · FeatsMeets: laid · FeatsUnifies: laid · FeatsMetric: laid · FeatsSets: laid · FeatsTakes: laid · FeatsOrders: laid · FeatsChanges: laid · FeatsChanged: laid · FeatsKnown: laid.
  DERIVED. THE GIVEN ROWS OF THIS SEAT. 12 by the template 'for every input the law returns true; each argument reads behind the call as it read before'; 0 by the template 'total and deterministic' (their statements: YtiocflikonfefaaDoorTotals.lean).
  GIVEN WITH THE SEED: the statements are not yours to turn. If you find one false, say at which input.
  Laid BY PROGRAM, IN A SANDBOX (cutbox-rows.mjs): the forced cells as the released guide's own fill.sh prints them over the translation 21c2c512776c4a8e… (all of the seat's roots in one cut). By AI agents, Wed Nov 11 2026. No macro, syntax, notation, axiom, sorry.
-/
import Derived.Test.YtiocflikonfefaaDoorChecked
import GoSem.Claim
import GoSem.ClaimJoined
import GoSem.ClaimMapViews
import Derived.JoinedTies
import Derived.KernelRfl
namespace Go.Proofs.YtiocflikonfefaaDoor
/- THE CELL 'sum', in the pinned program and in every row, IS THE sha256 OF THE DUMP (.gsa) THAT YtiocflikonfefaaDoorProg.lean LOADS. Nothing in Lean hashes anything: it is a label: what it is worth is what the hold of that sum in a sandbox is worth. -/
noncomputable def Tryd.pinned : Pinned := { name := "ytiocflikonfefaadoor", sum := "21c2c512776c4a8e7e7ffbb2d99a3ecfd61444daa0dd450df44996fade75c284", checked := Tryd.checked }
namespace Rows
def none {H : Type} : Left H := { results := [], args := [] }

/- WHAT THE LISTED PACKAGE-LEVEL VARIABLES READ AS WHEN THE CALL BEGINS. Each datum BY PROGRAM (the guide's laid-datum.mjs) off the statement by which the dump's own 'gosem.cut.vars' lays the variable. In a bare row this is a premise. The card (YtiocflikonfefaaDoorCards.lean) ties it to the program's text. -/
def laid_math_bits_deBruijn32tab {H : Type} : DataW H := .agg [.lit (.int .u8 0), .lit (.int .u8 1), .lit (.int .u8 28), .lit (.int .u8 2), .lit (.int .u8 29), .lit (.int .u8 14), .lit (.int .u8 24), .lit (.int .u8 3), .lit (.int .u8 30), .lit (.int .u8 22), .lit (.int .u8 20), .lit (.int .u8 15), .lit (.int .u8 25), .lit (.int .u8 17), .lit (.int .u8 4), .lit (.int .u8 8), .lit (.int .u8 31), .lit (.int .u8 27), .lit (.int .u8 13), .lit (.int .u8 23), .lit (.int .u8 21), .lit (.int .u8 19), .lit (.int .u8 16), .lit (.int .u8 7), .lit (.int .u8 26), .lit (.int .u8 12), .lit (.int .u8 18), .lit (.int .u8 6), .lit (.int .u8 11), .lit (.int .u8 5), .lit (.int .u8 10), .lit (.int .u8 9)]

/-- 'ablautlaw01.FeatsValues': WHATEVER THE INPUT: true; the input reads as it did. -/
def featsValuesSpec : ChangeSpec := { name := "featsValues", fn := fun _ => fun
  | [d1, d2, d3] => { results := [.lit (.bool true)], args := [d1, d2, d3] }
  | _ => none }
def featsValuesRow : OpenClaim := { program := "ytiocflikonfefaadoor", sum := "21c2c512776c4a8e7e7ffbb2d99a3ecfd61444daa0dd450df44996fade75c284", func := "ablaut/ablautlaw01.FeatsValues", spec := "featsValues", unfollowed := true, recurses := true, named := ["math/bits.deBruijn32tab"], apart := false, laid := [("math/bits.deBruijn32tab", laid_math_bits_deBruijn32tab)] }
def FeatsValuesSaid : Prop := featsValuesRow.holds Tryd.pinned (OpenSpec.ofChange featsValuesSpec)

/-- ITS FALSE NEIGHBOUR: 'it returns false'. Refute it at one input. -/
def featsValuesWrong : ChangeSpec := { name := "featsValues", fn := fun _ => fun
  | [d1, d2, d3] => { results := [.lit (.bool false)], args := [d1, d2, d3] }
  | _ => none }
def FeatsValuesWrongFalsely : Prop := featsValuesRow.holds Tryd.pinned (OpenSpec.ofChange featsValuesWrong)

/-- 'ablautlaw01.FeatsPairs': WHATEVER THE INPUT: true; the input reads as it did. -/
def featsPairsSpec : ChangeSpec := { name := "featsPairs", fn := fun _ => fun
  | [d1, d2] => { results := [.lit (.bool true)], args := [d1, d2] }
  | _ => none }
def featsPairsRow : OpenClaim := { program := "ytiocflikonfefaadoor", sum := "21c2c512776c4a8e7e7ffbb2d99a3ecfd61444daa0dd450df44996fade75c284", func := "ablaut/ablautlaw01.FeatsPairs", spec := "featsPairs", unfollowed := true, recurses := true, named := ["math/bits.deBruijn32tab"], apart := false, laid := [("math/bits.deBruijn32tab", laid_math_bits_deBruijn32tab)] }
def FeatsPairsSaid : Prop := featsPairsRow.holds Tryd.pinned (OpenSpec.ofChange featsPairsSpec)

/-- ITS FALSE NEIGHBOUR: 'it returns false'. Refute it at one input. -/
def featsPairsWrong : ChangeSpec := { name := "featsPairs", fn := fun _ => fun
  | [d1, d2] => { results := [.lit (.bool false)], args := [d1, d2] }
  | _ => none }
def FeatsPairsWrongFalsely : Prop := featsPairsRow.holds Tryd.pinned (OpenSpec.ofChange featsPairsWrong)

/-- 'ablautlaw01.FeatsCosts': WHATEVER THE INPUT: true; the input reads as it did. -/
def featsCostsSpec : ChangeSpec := { name := "featsCosts", fn := fun _ => fun
  | [d1, d2, d3] => { results := [.lit (.bool true)], args := [d1, d2, d3] }
  | _ => none }
def featsCostsRow : OpenClaim := { program := "ytiocflikonfefaadoor", sum := "21c2c512776c4a8e7e7ffbb2d99a3ecfd61444daa0dd450df44996fade75c284", func := "ablaut/ablautlaw01.FeatsCosts", spec := "featsCosts", unfollowed := true, recurses := true, named := ["math/bits.deBruijn32tab"], apart := false, laid := [("math/bits.deBruijn32tab", laid_math_bits_deBruijn32tab)] }
def FeatsCostsSaid : Prop := featsCostsRow.holds Tryd.pinned (OpenSpec.ofChange featsCostsSpec)

/-- ITS FALSE NEIGHBOUR: 'it returns false'. Refute it at one input. -/
def featsCostsWrong : ChangeSpec := { name := "featsCosts", fn := fun _ => fun
  | [d1, d2, d3] => { results := [.lit (.bool false)], args := [d1, d2, d3] }
  | _ => none }
def FeatsCostsWrongFalsely : Prop := featsCostsRow.holds Tryd.pinned (OpenSpec.ofChange featsCostsWrong)

/-- 'ablautlaw01.FeatsMeets': WHATEVER THE INPUT: true; the input reads as it did. -/
def featsMeetsSpec : ChangeSpec := { name := "featsMeets", fn := fun _ => fun
  | [d1, d2, d3] => { results := [.lit (.bool true)], args := [d1, d2, d3] }
  | _ => none }
def featsMeetsRow : OpenClaim := { program := "ytiocflikonfefaadoor", sum := "21c2c512776c4a8e7e7ffbb2d99a3ecfd61444daa0dd450df44996fade75c284", func := "ablaut/ablautlaw01.FeatsMeets", spec := "featsMeets", unfollowed := true, recurses := true, named := ["math/bits.deBruijn32tab"], apart := false, laid := [("math/bits.deBruijn32tab", laid_math_bits_deBruijn32tab)] }
def FeatsMeetsSaid : Prop := featsMeetsRow.holds Tryd.pinned (OpenSpec.ofChange featsMeetsSpec)

/-- ITS FALSE NEIGHBOUR: 'it returns false'. Refute it at one input. -/
def featsMeetsWrong : ChangeSpec := { name := "featsMeets", fn := fun _ => fun
  | [d1, d2, d3] => { results := [.lit (.bool false)], args := [d1, d2, d3] }
  | _ => none }
def FeatsMeetsWrongFalsely : Prop := featsMeetsRow.holds Tryd.pinned (OpenSpec.ofChange featsMeetsWrong)

/-- 'ablautlaw01.FeatsUnifies': WHATEVER THE INPUT: true; the input reads as it did. -/
def featsUnifiesSpec : ChangeSpec := { name := "featsUnifies", fn := fun _ => fun
  | [d1, d2, d3] => { results := [.lit (.bool true)], args := [d1, d2, d3] }
  | _ => none }
def featsUnifiesRow : OpenClaim := { program := "ytiocflikonfefaadoor", sum := "21c2c512776c4a8e7e7ffbb2d99a3ecfd61444daa0dd450df44996fade75c284", func := "ablaut/ablautlaw01.FeatsUnifies", spec := "featsUnifies", unfollowed := true, recurses := true, named := ["math/bits.deBruijn32tab"], apart := false, laid := [("math/bits.deBruijn32tab", laid_math_bits_deBruijn32tab)] }
def FeatsUnifiesSaid : Prop := featsUnifiesRow.holds Tryd.pinned (OpenSpec.ofChange featsUnifiesSpec)

/-- ITS FALSE NEIGHBOUR: 'it returns false'. Refute it at one input. -/
def featsUnifiesWrong : ChangeSpec := { name := "featsUnifies", fn := fun _ => fun
  | [d1, d2, d3] => { results := [.lit (.bool false)], args := [d1, d2, d3] }
  | _ => none }
def FeatsUnifiesWrongFalsely : Prop := featsUnifiesRow.holds Tryd.pinned (OpenSpec.ofChange featsUnifiesWrong)

/-- 'ablautlaw01.FeatsMetric': WHATEVER THE INPUT: true; the input reads as it did. -/
def featsMetricSpec : ChangeSpec := { name := "featsMetric", fn := fun _ => fun
  | [d1, d2, d3, d4] => { results := [.lit (.bool true)], args := [d1, d2, d3, d4] }
  | _ => none }
def featsMetricRow : OpenClaim := { program := "ytiocflikonfefaadoor", sum := "21c2c512776c4a8e7e7ffbb2d99a3ecfd61444daa0dd450df44996fade75c284", func := "ablaut/ablautlaw01.FeatsMetric", spec := "featsMetric", unfollowed := true, recurses := true, named := ["math/bits.deBruijn32tab"], apart := false, laid := [("math/bits.deBruijn32tab", laid_math_bits_deBruijn32tab)] }
def FeatsMetricSaid : Prop := featsMetricRow.holds Tryd.pinned (OpenSpec.ofChange featsMetricSpec)

/-- ITS FALSE NEIGHBOUR: 'it returns false'. Refute it at one input. -/
def featsMetricWrong : ChangeSpec := { name := "featsMetric", fn := fun _ => fun
  | [d1, d2, d3, d4] => { results := [.lit (.bool false)], args := [d1, d2, d3, d4] }
  | _ => none }
def FeatsMetricWrongFalsely : Prop := featsMetricRow.holds Tryd.pinned (OpenSpec.ofChange featsMetricWrong)

/-- 'ablautlaw01.FeatsSets': WHATEVER THE INPUT: true; the input reads as it did. -/
def featsSetsSpec : ChangeSpec := { name := "featsSets", fn := fun _ => fun
  | [d1, d2, d3] => { results := [.lit (.bool true)], args := [d1, d2, d3] }
  | _ => none }
def featsSetsRow : OpenClaim := { program := "ytiocflikonfefaadoor", sum := "21c2c512776c4a8e7e7ffbb2d99a3ecfd61444daa0dd450df44996fade75c284", func := "ablaut/ablautlaw01.FeatsSets", spec := "featsSets", unfollowed := true, recurses := true, named := ["math/bits.deBruijn32tab"], apart := false, laid := [("math/bits.deBruijn32tab", laid_math_bits_deBruijn32tab)] }
def FeatsSetsSaid : Prop := featsSetsRow.holds Tryd.pinned (OpenSpec.ofChange featsSetsSpec)

/-- ITS FALSE NEIGHBOUR: 'it returns false'. Refute it at one input. -/
def featsSetsWrong : ChangeSpec := { name := "featsSets", fn := fun _ => fun
  | [d1, d2, d3] => { results := [.lit (.bool false)], args := [d1, d2, d3] }
  | _ => none }
def FeatsSetsWrongFalsely : Prop := featsSetsRow.holds Tryd.pinned (OpenSpec.ofChange featsSetsWrong)

/-- 'ablautlaw01.FeatsTakes': WHATEVER THE INPUT: true; the input reads as it did. -/
def featsTakesSpec : ChangeSpec := { name := "featsTakes", fn := fun _ => fun
  | [d1, d2, d3] => { results := [.lit (.bool true)], args := [d1, d2, d3] }
  | _ => none }
def featsTakesRow : OpenClaim := { program := "ytiocflikonfefaadoor", sum := "21c2c512776c4a8e7e7ffbb2d99a3ecfd61444daa0dd450df44996fade75c284", func := "ablaut/ablautlaw01.FeatsTakes", spec := "featsTakes", unfollowed := true, recurses := true, named := ["math/bits.deBruijn32tab"], apart := false, laid := [("math/bits.deBruijn32tab", laid_math_bits_deBruijn32tab)] }
def FeatsTakesSaid : Prop := featsTakesRow.holds Tryd.pinned (OpenSpec.ofChange featsTakesSpec)

/-- ITS FALSE NEIGHBOUR: 'it returns false'. Refute it at one input. -/
def featsTakesWrong : ChangeSpec := { name := "featsTakes", fn := fun _ => fun
  | [d1, d2, d3] => { results := [.lit (.bool false)], args := [d1, d2, d3] }
  | _ => none }
def FeatsTakesWrongFalsely : Prop := featsTakesRow.holds Tryd.pinned (OpenSpec.ofChange featsTakesWrong)

/-- 'ablautlaw01.FeatsOrders': WHATEVER THE INPUT: true; the input reads as it did. -/
def featsOrdersSpec : ChangeSpec := { name := "featsOrders", fn := fun _ => fun
  | [d1, d2, d3] => { results := [.lit (.bool true)], args := [d1, d2, d3] }
  | _ => none }
def featsOrdersRow : OpenClaim := { program := "ytiocflikonfefaadoor", sum := "21c2c512776c4a8e7e7ffbb2d99a3ecfd61444daa0dd450df44996fade75c284", func := "ablaut/ablautlaw01.FeatsOrders", spec := "featsOrders", unfollowed := true, recurses := true, named := ["math/bits.deBruijn32tab"], apart := false, laid := [("math/bits.deBruijn32tab", laid_math_bits_deBruijn32tab)] }
def FeatsOrdersSaid : Prop := featsOrdersRow.holds Tryd.pinned (OpenSpec.ofChange featsOrdersSpec)

/-- ITS FALSE NEIGHBOUR: 'it returns false'. Refute it at one input. -/
def featsOrdersWrong : ChangeSpec := { name := "featsOrders", fn := fun _ => fun
  | [d1, d2, d3] => { results := [.lit (.bool false)], args := [d1, d2, d3] }
  | _ => none }
def FeatsOrdersWrongFalsely : Prop := featsOrdersRow.holds Tryd.pinned (OpenSpec.ofChange featsOrdersWrong)

/-- 'ablautlaw01.FeatsChanges': WHATEVER THE INPUT: true; the input reads as it did. -/
def featsChangesSpec : ChangeSpec := { name := "featsChanges", fn := fun _ => fun
  | [d1, d2, d3] => { results := [.lit (.bool true)], args := [d1, d2, d3] }
  | _ => none }
def featsChangesRow : OpenClaim := { program := "ytiocflikonfefaadoor", sum := "21c2c512776c4a8e7e7ffbb2d99a3ecfd61444daa0dd450df44996fade75c284", func := "ablaut/ablautlaw01.FeatsChanges", spec := "featsChanges", unfollowed := true, recurses := true, named := ["math/bits.deBruijn32tab"], apart := false, laid := [("math/bits.deBruijn32tab", laid_math_bits_deBruijn32tab)] }
def FeatsChangesSaid : Prop := featsChangesRow.holds Tryd.pinned (OpenSpec.ofChange featsChangesSpec)

/-- ITS FALSE NEIGHBOUR: 'it returns false'. Refute it at one input. -/
def featsChangesWrong : ChangeSpec := { name := "featsChanges", fn := fun _ => fun
  | [d1, d2, d3] => { results := [.lit (.bool false)], args := [d1, d2, d3] }
  | _ => none }
def FeatsChangesWrongFalsely : Prop := featsChangesRow.holds Tryd.pinned (OpenSpec.ofChange featsChangesWrong)

/-- 'ablautlaw01.FeatsChanged': WHATEVER THE INPUT: true; the input reads as it did. -/
def featsChangedSpec : ChangeSpec := { name := "featsChanged", fn := fun _ => fun
  | [d1, d2, d3] => { results := [.lit (.bool true)], args := [d1, d2, d3] }
  | _ => none }
def featsChangedRow : OpenClaim := { program := "ytiocflikonfefaadoor", sum := "21c2c512776c4a8e7e7ffbb2d99a3ecfd61444daa0dd450df44996fade75c284", func := "ablaut/ablautlaw01.FeatsChanged", spec := "featsChanged", unfollowed := true, recurses := true, named := ["math/bits.deBruijn32tab"], apart := false, laid := [("math/bits.deBruijn32tab", laid_math_bits_deBruijn32tab)] }
def FeatsChangedSaid : Prop := featsChangedRow.holds Tryd.pinned (OpenSpec.ofChange featsChangedSpec)

/-- ITS FALSE NEIGHBOUR: 'it returns false'. Refute it at one input. -/
def featsChangedWrong : ChangeSpec := { name := "featsChanged", fn := fun _ => fun
  | [d1, d2, d3] => { results := [.lit (.bool false)], args := [d1, d2, d3] }
  | _ => none }
def FeatsChangedWrongFalsely : Prop := featsChangedRow.holds Tryd.pinned (OpenSpec.ofChange featsChangedWrong)

/-- 'ablautlaw01.FeatsKnown': WHATEVER THE INPUT: true; the input reads as it did. -/
def featsKnownSpec : ChangeSpec := { name := "featsKnown", fn := fun _ => fun
  | [] => { results := [.lit (.bool true)], args := [] }
  | _ => none }
def featsKnownRow : OpenClaim := { program := "ytiocflikonfefaadoor", sum := "21c2c512776c4a8e7e7ffbb2d99a3ecfd61444daa0dd450df44996fade75c284", func := "ablaut/ablautlaw01.FeatsKnown", spec := "featsKnown", unfollowed := true, recurses := true, named := ["math/bits.deBruijn32tab"], apart := false, laid := [("math/bits.deBruijn32tab", laid_math_bits_deBruijn32tab)] }
def FeatsKnownSaid : Prop := featsKnownRow.holds Tryd.pinned (OpenSpec.ofChange featsKnownSpec)

/-- ITS FALSE NEIGHBOUR: 'it returns false'. Refute it at one input. -/
def featsKnownWrong : ChangeSpec := { name := "featsKnown", fn := fun _ => fun
  | [] => { results := [.lit (.bool false)], args := [] }
  | _ => none }
def FeatsKnownWrongFalsely : Prop := featsKnownRow.holds Tryd.pinned (OpenSpec.ofChange featsKnownWrong)

/- THE SECOND FORM. 'bulk': how many values and letters a reading holds, each counted each time it is reached (what is shared counts as often as it is met; a slice's spare places count too). A statement '..UptoSaid' is the law's where the arguments, and the package variables that the reading takes, are together of bulk at most 1048576: NARROWER than '..Said'. Prove '..Said' where nothing that the law and all that it calls make is longer than what came in: it says more and counts as full. Else prove '..UptoSaid'. A law counts once. -/
mutual
def uptoBulk {H : Type} : DataW H → Nat
  | .lit (.string bytes) => bytes.length + 1
  | .lit _ => 1
  | .nil => 1
  | .ptr d => uptoBulk d + 1
  | .slice elems spare => uptoBulkAll elems + uptoBulkAll spare + 1
  | .agg parts => uptoBulkAll parts + 1
  | .iface _ d => uptoBulk d + 1
  | .map entries => uptoBulkEntries entries + 1
  | .held _ => 1
def uptoBulkAll {H : Type} : List (DataW H) → Nat
  | [] => 0
  | d :: r => uptoBulk d + uptoBulkAll r
def uptoBulkEntries {H : Type} : List (Lit × DataW H) → Nat
  | [] => 0
  | x :: r => uptoBulkEntry x + uptoBulkEntries r
def uptoBulkEntry {H : Type} : Lit × DataW H → Nat
  | (.string bytes, d) => bytes.length + uptoBulk d + 1
  | (_, d) => uptoBulk d + 1
 end
def uptoSmall : (H : Type) → List (DataW H) → Bool := fun _ ds => decide (uptoBulkAll ds ≤ 1048576)
def OpenSpec.upto (s : _root_.Go.ChangeSpec) : _root_.Go.OpenSpec := { _root_.Go.OpenSpec.ofChange s with cond := some uptoSmall }

/-- 'ablautlaw01.FeatsValues', WHERE WHAT IT READS IS OF BULK AT MOST 1048576: true; the input reads as it did. -/
def featsValuesUptoRow : OpenClaim := { program := "ytiocflikonfefaadoor", sum := "21c2c512776c4a8e7e7ffbb2d99a3ecfd61444daa0dd450df44996fade75c284", func := "ablaut/ablautlaw01.FeatsValues", spec := "featsValues", unfollowed := true, recurses := true, named := ["math/bits.deBruijn32tab"], apart := false, laid := [("math/bits.deBruijn32tab", laid_math_bits_deBruijn32tab)], narrowed := true }
def FeatsValuesUptoSaid : Prop := featsValuesUptoRow.holds Tryd.pinned (OpenSpec.upto featsValuesSpec)

/-- 'ablautlaw01.FeatsPairs', WHERE WHAT IT READS IS OF BULK AT MOST 1048576: true; the input reads as it did. -/
def featsPairsUptoRow : OpenClaim := { program := "ytiocflikonfefaadoor", sum := "21c2c512776c4a8e7e7ffbb2d99a3ecfd61444daa0dd450df44996fade75c284", func := "ablaut/ablautlaw01.FeatsPairs", spec := "featsPairs", unfollowed := true, recurses := true, named := ["math/bits.deBruijn32tab"], apart := false, laid := [("math/bits.deBruijn32tab", laid_math_bits_deBruijn32tab)], narrowed := true }
def FeatsPairsUptoSaid : Prop := featsPairsUptoRow.holds Tryd.pinned (OpenSpec.upto featsPairsSpec)

/-- 'ablautlaw01.FeatsCosts', WHERE WHAT IT READS IS OF BULK AT MOST 1048576: true; the input reads as it did. -/
def featsCostsUptoRow : OpenClaim := { program := "ytiocflikonfefaadoor", sum := "21c2c512776c4a8e7e7ffbb2d99a3ecfd61444daa0dd450df44996fade75c284", func := "ablaut/ablautlaw01.FeatsCosts", spec := "featsCosts", unfollowed := true, recurses := true, named := ["math/bits.deBruijn32tab"], apart := false, laid := [("math/bits.deBruijn32tab", laid_math_bits_deBruijn32tab)], narrowed := true }
def FeatsCostsUptoSaid : Prop := featsCostsUptoRow.holds Tryd.pinned (OpenSpec.upto featsCostsSpec)

/-- 'ablautlaw01.FeatsMeets', WHERE WHAT IT READS IS OF BULK AT MOST 1048576: true; the input reads as it did. -/
def featsMeetsUptoRow : OpenClaim := { program := "ytiocflikonfefaadoor", sum := "21c2c512776c4a8e7e7ffbb2d99a3ecfd61444daa0dd450df44996fade75c284", func := "ablaut/ablautlaw01.FeatsMeets", spec := "featsMeets", unfollowed := true, recurses := true, named := ["math/bits.deBruijn32tab"], apart := false, laid := [("math/bits.deBruijn32tab", laid_math_bits_deBruijn32tab)], narrowed := true }
def FeatsMeetsUptoSaid : Prop := featsMeetsUptoRow.holds Tryd.pinned (OpenSpec.upto featsMeetsSpec)

/-- 'ablautlaw01.FeatsUnifies', WHERE WHAT IT READS IS OF BULK AT MOST 1048576: true; the input reads as it did. -/
def featsUnifiesUptoRow : OpenClaim := { program := "ytiocflikonfefaadoor", sum := "21c2c512776c4a8e7e7ffbb2d99a3ecfd61444daa0dd450df44996fade75c284", func := "ablaut/ablautlaw01.FeatsUnifies", spec := "featsUnifies", unfollowed := true, recurses := true, named := ["math/bits.deBruijn32tab"], apart := false, laid := [("math/bits.deBruijn32tab", laid_math_bits_deBruijn32tab)], narrowed := true }
def FeatsUnifiesUptoSaid : Prop := featsUnifiesUptoRow.holds Tryd.pinned (OpenSpec.upto featsUnifiesSpec)

/-- 'ablautlaw01.FeatsMetric', WHERE WHAT IT READS IS OF BULK AT MOST 1048576: true; the input reads as it did. -/
def featsMetricUptoRow : OpenClaim := { program := "ytiocflikonfefaadoor", sum := "21c2c512776c4a8e7e7ffbb2d99a3ecfd61444daa0dd450df44996fade75c284", func := "ablaut/ablautlaw01.FeatsMetric", spec := "featsMetric", unfollowed := true, recurses := true, named := ["math/bits.deBruijn32tab"], apart := false, laid := [("math/bits.deBruijn32tab", laid_math_bits_deBruijn32tab)], narrowed := true }
def FeatsMetricUptoSaid : Prop := featsMetricUptoRow.holds Tryd.pinned (OpenSpec.upto featsMetricSpec)

/-- 'ablautlaw01.FeatsSets', WHERE WHAT IT READS IS OF BULK AT MOST 1048576: true; the input reads as it did. -/
def featsSetsUptoRow : OpenClaim := { program := "ytiocflikonfefaadoor", sum := "21c2c512776c4a8e7e7ffbb2d99a3ecfd61444daa0dd450df44996fade75c284", func := "ablaut/ablautlaw01.FeatsSets", spec := "featsSets", unfollowed := true, recurses := true, named := ["math/bits.deBruijn32tab"], apart := false, laid := [("math/bits.deBruijn32tab", laid_math_bits_deBruijn32tab)], narrowed := true }
def FeatsSetsUptoSaid : Prop := featsSetsUptoRow.holds Tryd.pinned (OpenSpec.upto featsSetsSpec)

/-- 'ablautlaw01.FeatsTakes', WHERE WHAT IT READS IS OF BULK AT MOST 1048576: true; the input reads as it did. -/
def featsTakesUptoRow : OpenClaim := { program := "ytiocflikonfefaadoor", sum := "21c2c512776c4a8e7e7ffbb2d99a3ecfd61444daa0dd450df44996fade75c284", func := "ablaut/ablautlaw01.FeatsTakes", spec := "featsTakes", unfollowed := true, recurses := true, named := ["math/bits.deBruijn32tab"], apart := false, laid := [("math/bits.deBruijn32tab", laid_math_bits_deBruijn32tab)], narrowed := true }
def FeatsTakesUptoSaid : Prop := featsTakesUptoRow.holds Tryd.pinned (OpenSpec.upto featsTakesSpec)

/-- 'ablautlaw01.FeatsOrders', WHERE WHAT IT READS IS OF BULK AT MOST 1048576: true; the input reads as it did. -/
def featsOrdersUptoRow : OpenClaim := { program := "ytiocflikonfefaadoor", sum := "21c2c512776c4a8e7e7ffbb2d99a3ecfd61444daa0dd450df44996fade75c284", func := "ablaut/ablautlaw01.FeatsOrders", spec := "featsOrders", unfollowed := true, recurses := true, named := ["math/bits.deBruijn32tab"], apart := false, laid := [("math/bits.deBruijn32tab", laid_math_bits_deBruijn32tab)], narrowed := true }
def FeatsOrdersUptoSaid : Prop := featsOrdersUptoRow.holds Tryd.pinned (OpenSpec.upto featsOrdersSpec)

/-- 'ablautlaw01.FeatsChanges', WHERE WHAT IT READS IS OF BULK AT MOST 1048576: true; the input reads as it did. -/
def featsChangesUptoRow : OpenClaim := { program := "ytiocflikonfefaadoor", sum := "21c2c512776c4a8e7e7ffbb2d99a3ecfd61444daa0dd450df44996fade75c284", func := "ablaut/ablautlaw01.FeatsChanges", spec := "featsChanges", unfollowed := true, recurses := true, named := ["math/bits.deBruijn32tab"], apart := false, laid := [("math/bits.deBruijn32tab", laid_math_bits_deBruijn32tab)], narrowed := true }
def FeatsChangesUptoSaid : Prop := featsChangesUptoRow.holds Tryd.pinned (OpenSpec.upto featsChangesSpec)

/-- 'ablautlaw01.FeatsChanged', WHERE WHAT IT READS IS OF BULK AT MOST 1048576: true; the input reads as it did. -/
def featsChangedUptoRow : OpenClaim := { program := "ytiocflikonfefaadoor", sum := "21c2c512776c4a8e7e7ffbb2d99a3ecfd61444daa0dd450df44996fade75c284", func := "ablaut/ablautlaw01.FeatsChanged", spec := "featsChanged", unfollowed := true, recurses := true, named := ["math/bits.deBruijn32tab"], apart := false, laid := [("math/bits.deBruijn32tab", laid_math_bits_deBruijn32tab)], narrowed := true }
def FeatsChangedUptoSaid : Prop := featsChangedUptoRow.holds Tryd.pinned (OpenSpec.upto featsChangedSpec)

/-- 'ablautlaw01.FeatsKnown', WHERE WHAT IT READS IS OF BULK AT MOST 1048576: true; the input reads as it did. -/
def featsKnownUptoRow : OpenClaim := { program := "ytiocflikonfefaadoor", sum := "21c2c512776c4a8e7e7ffbb2d99a3ecfd61444daa0dd450df44996fade75c284", func := "ablaut/ablautlaw01.FeatsKnown", spec := "featsKnown", unfollowed := true, recurses := true, named := ["math/bits.deBruijn32tab"], apart := false, laid := [("math/bits.deBruijn32tab", laid_math_bits_deBruijn32tab)], narrowed := true }
def FeatsKnownUptoSaid : Prop := featsKnownUptoRow.holds Tryd.pinned (OpenSpec.upto featsKnownSpec)

end Rows
end Go.Proofs.YtiocflikonfefaaDoor
