/-
  NARROWER THAN 'FOR EVERY INPUT', by the rows' own cells (each row's printed sentence says how): MultiScores: laid · MultiAligns: laid · MultiExacts: laid · MultiExact: laid · MultiSums: laid · MultiAdds: laid · MultiAdded: laid · MultiRefines: laid · MultiRefined: laid · MultiChecks: laid · MultiRows: laid · MultiKnown: laid.
  DERIVED. THE GIVEN ROWS OF THIS SEAT. 12 by the template 'for every input the law returns true; each argument reads behind the call as it read before'; 0 by the template 'total and deterministic' (their statements: YtialbhieaipcgaaDoorTotals.lean).
  GIVEN WITH THE SEED: the statements are not yours to turn. If you find one false, say at which input.
  Laid BY PROGRAM, IN A SANDBOX (cutbox-rows.mjs): the forced cells as the released guide's own fill.sh prints them over the translation e71cfdb40e647cb4… (all of the seat's roots in one cut). By AI agents, Wed Nov 11 2026. No macro, syntax, notation, axiom, sorry.
-/
import Derived.Test.YtialbhieaipcgaaDoorChecked
import GoSem.Claim
import GoSem.ClaimJoined
import GoSem.ClaimMapViews
import Derived.JoinedTies
import Derived.KernelRfl
namespace Go.Proofs.YtialbhieaipcgaaDoor
/- THE CELL 'sum', in the pinned program and in every row, IS THE sha256 OF THE DUMP (.gsa) THAT YtialbhieaipcgaaDoorProg.lean LOADS. Nothing in Lean hashes anything: it is a label: what it is worth is what the hold of that sum in a sandbox is worth. -/
noncomputable def Tryd.pinned : Pinned := { name := "ytialbhieaipcgaadoor", sum := "e71cfdb40e647cb43604b308a97b26636bd4b513ab9bb6a3073cfd9fbb6ab782", checked := Tryd.checked }
namespace Rows
def none {H : Type} : Left H := { results := [], args := [] }

/- WHAT THE LISTED PACKAGE-LEVEL VARIABLES READ AS WHEN THE CALL BEGINS. Each datum BY PROGRAM (the guide's laid-datum.mjs) off the statement by which the dump's own 'gosem.cut.vars' lays the variable. In a bare row this is a premise. The card (YtialbhieaipcgaaDoorCards.lean) ties it to the program's text. -/
def laid_math_bits_deBruijn32tab {H : Type} : DataW H := .agg [.lit (.int .u8 0), .lit (.int .u8 1), .lit (.int .u8 28), .lit (.int .u8 2), .lit (.int .u8 29), .lit (.int .u8 14), .lit (.int .u8 24), .lit (.int .u8 3), .lit (.int .u8 30), .lit (.int .u8 22), .lit (.int .u8 20), .lit (.int .u8 15), .lit (.int .u8 25), .lit (.int .u8 17), .lit (.int .u8 4), .lit (.int .u8 8), .lit (.int .u8 31), .lit (.int .u8 27), .lit (.int .u8 13), .lit (.int .u8 23), .lit (.int .u8 21), .lit (.int .u8 19), .lit (.int .u8 16), .lit (.int .u8 7), .lit (.int .u8 26), .lit (.int .u8 12), .lit (.int .u8 18), .lit (.int .u8 6), .lit (.int .u8 11), .lit (.int .u8 5), .lit (.int .u8 10), .lit (.int .u8 9)]
def laid_ablaut_multi_steps {H : Type} : DataW H := .iface "func table" (.agg [.agg [.lit (.int .i64 1), .lit (.int .i64 1), .iface "func" (.lit (.string [97, 98, 108, 97, 117, 116, 47, 109, 117, 108, 116, 105, 46, 115, 116, 101, 112, 115, 36, 49]))], .agg [.lit (.int .i64 1), .lit (.int .i64 0), .iface "func" (.lit (.string [97, 98, 108, 97, 117, 116, 47, 109, 117, 108, 116, 105, 46, 115, 116, 101, 112, 115, 36, 50]))], .agg [.lit (.int .i64 0), .lit (.int .i64 1), .iface "func" (.lit (.string [97, 98, 108, 97, 117, 116, 47, 109, 117, 108, 116, 105, 46, 115, 116, 101, 112, 115, 36, 51]))]])

/-- 'ablautlaw18.MultiScores': WHATEVER THE INPUT: true; the input reads as it did. -/
def multiScoresSpec : ChangeSpec := { name := "multiScores", fn := fun _ => fun
  | [d1, d2, d3] => { results := [.lit (.bool true)], args := [d1, d2, d3] }
  | _ => none }
def multiScoresRow : OpenClaim := { program := "ytialbhieaipcgaadoor", sum := "e71cfdb40e647cb43604b308a97b26636bd4b513ab9bb6a3073cfd9fbb6ab782", func := "ablaut/ablautlaw18.MultiScores", spec := "multiScores", unfollowed := true, recurses := true, named := ["math/bits.deBruijn32tab", "ablaut/multi.steps"], apart := false, laid := [("math/bits.deBruijn32tab", laid_math_bits_deBruijn32tab), ("ablaut/multi.steps", laid_ablaut_multi_steps)] }
def MultiScoresSaid : Prop := multiScoresRow.holds Tryd.pinned (OpenSpec.ofChange multiScoresSpec)

/-- ITS FALSE NEIGHBOUR: 'it returns false'. Refute it at one input. -/
def multiScoresWrong : ChangeSpec := { name := "multiScores", fn := fun _ => fun
  | [d1, d2, d3] => { results := [.lit (.bool false)], args := [d1, d2, d3] }
  | _ => none }
def MultiScoresWrongFalsely : Prop := multiScoresRow.holds Tryd.pinned (OpenSpec.ofChange multiScoresWrong)

/-- 'ablautlaw18.MultiAligns': WHATEVER THE INPUT: true; the input reads as it did. -/
def multiAlignsSpec : ChangeSpec := { name := "multiAligns", fn := fun _ => fun
  | [d1, d2] => { results := [.lit (.bool true)], args := [d1, d2] }
  | _ => none }
def multiAlignsRow : OpenClaim := { program := "ytialbhieaipcgaadoor", sum := "e71cfdb40e647cb43604b308a97b26636bd4b513ab9bb6a3073cfd9fbb6ab782", func := "ablaut/ablautlaw18.MultiAligns", spec := "multiAligns", unfollowed := true, recurses := true, named := ["math/bits.deBruijn32tab", "ablaut/multi.steps"], apart := false, laid := [("math/bits.deBruijn32tab", laid_math_bits_deBruijn32tab), ("ablaut/multi.steps", laid_ablaut_multi_steps)] }
def MultiAlignsSaid : Prop := multiAlignsRow.holds Tryd.pinned (OpenSpec.ofChange multiAlignsSpec)

/-- ITS FALSE NEIGHBOUR: 'it returns false'. Refute it at one input. -/
def multiAlignsWrong : ChangeSpec := { name := "multiAligns", fn := fun _ => fun
  | [d1, d2] => { results := [.lit (.bool false)], args := [d1, d2] }
  | _ => none }
def MultiAlignsWrongFalsely : Prop := multiAlignsRow.holds Tryd.pinned (OpenSpec.ofChange multiAlignsWrong)

/-- 'ablautlaw18.MultiExacts': WHATEVER THE INPUT: true; the input reads as it did. -/
def multiExactsSpec : ChangeSpec := { name := "multiExacts", fn := fun _ => fun
  | [d1, d2] => { results := [.lit (.bool true)], args := [d1, d2] }
  | _ => none }
def multiExactsRow : OpenClaim := { program := "ytialbhieaipcgaadoor", sum := "e71cfdb40e647cb43604b308a97b26636bd4b513ab9bb6a3073cfd9fbb6ab782", func := "ablaut/ablautlaw18.MultiExacts", spec := "multiExacts", unfollowed := true, recurses := true, named := ["math/bits.deBruijn32tab", "ablaut/multi.steps"], apart := false, laid := [("math/bits.deBruijn32tab", laid_math_bits_deBruijn32tab), ("ablaut/multi.steps", laid_ablaut_multi_steps)] }
def MultiExactsSaid : Prop := multiExactsRow.holds Tryd.pinned (OpenSpec.ofChange multiExactsSpec)

/-- ITS FALSE NEIGHBOUR: 'it returns false'. Refute it at one input. -/
def multiExactsWrong : ChangeSpec := { name := "multiExacts", fn := fun _ => fun
  | [d1, d2] => { results := [.lit (.bool false)], args := [d1, d2] }
  | _ => none }
def MultiExactsWrongFalsely : Prop := multiExactsRow.holds Tryd.pinned (OpenSpec.ofChange multiExactsWrong)

/-- 'ablautlaw18.MultiExact': WHATEVER THE INPUT: true; the input reads as it did. -/
def multiExactSpec : ChangeSpec := { name := "multiExact", fn := fun _ => fun
  | [d1, d2, d3] => { results := [.lit (.bool true)], args := [d1, d2, d3] }
  | _ => none }
def multiExactRow : OpenClaim := { program := "ytialbhieaipcgaadoor", sum := "e71cfdb40e647cb43604b308a97b26636bd4b513ab9bb6a3073cfd9fbb6ab782", func := "ablaut/ablautlaw18.MultiExact", spec := "multiExact", unfollowed := true, recurses := true, named := ["math/bits.deBruijn32tab", "ablaut/multi.steps"], apart := false, laid := [("math/bits.deBruijn32tab", laid_math_bits_deBruijn32tab), ("ablaut/multi.steps", laid_ablaut_multi_steps)] }
def MultiExactSaid : Prop := multiExactRow.holds Tryd.pinned (OpenSpec.ofChange multiExactSpec)

/-- ITS FALSE NEIGHBOUR: 'it returns false'. Refute it at one input. -/
def multiExactWrong : ChangeSpec := { name := "multiExact", fn := fun _ => fun
  | [d1, d2, d3] => { results := [.lit (.bool false)], args := [d1, d2, d3] }
  | _ => none }
def MultiExactWrongFalsely : Prop := multiExactRow.holds Tryd.pinned (OpenSpec.ofChange multiExactWrong)

/-- 'ablautlaw18.MultiSums': WHATEVER THE INPUT: true; the input reads as it did. -/
def multiSumsSpec : ChangeSpec := { name := "multiSums", fn := fun _ => fun
  | [d1, d2, d3] => { results := [.lit (.bool true)], args := [d1, d2, d3] }
  | _ => none }
def multiSumsRow : OpenClaim := { program := "ytialbhieaipcgaadoor", sum := "e71cfdb40e647cb43604b308a97b26636bd4b513ab9bb6a3073cfd9fbb6ab782", func := "ablaut/ablautlaw18.MultiSums", spec := "multiSums", unfollowed := true, recurses := true, named := ["math/bits.deBruijn32tab", "ablaut/multi.steps"], apart := false, laid := [("math/bits.deBruijn32tab", laid_math_bits_deBruijn32tab), ("ablaut/multi.steps", laid_ablaut_multi_steps)] }
def MultiSumsSaid : Prop := multiSumsRow.holds Tryd.pinned (OpenSpec.ofChange multiSumsSpec)

/-- ITS FALSE NEIGHBOUR: 'it returns false'. Refute it at one input. -/
def multiSumsWrong : ChangeSpec := { name := "multiSums", fn := fun _ => fun
  | [d1, d2, d3] => { results := [.lit (.bool false)], args := [d1, d2, d3] }
  | _ => none }
def MultiSumsWrongFalsely : Prop := multiSumsRow.holds Tryd.pinned (OpenSpec.ofChange multiSumsWrong)

/-- 'ablautlaw18.MultiAdds': WHATEVER THE INPUT: true; the input reads as it did. -/
def multiAddsSpec : ChangeSpec := { name := "multiAdds", fn := fun _ => fun
  | [d] => { results := [.lit (.bool true)], args := [d] }
  | _ => none }
def multiAddsRow : OpenClaim := { program := "ytialbhieaipcgaadoor", sum := "e71cfdb40e647cb43604b308a97b26636bd4b513ab9bb6a3073cfd9fbb6ab782", func := "ablaut/ablautlaw18.MultiAdds", spec := "multiAdds", unfollowed := true, recurses := true, named := ["math/bits.deBruijn32tab", "ablaut/multi.steps"], apart := false, laid := [("math/bits.deBruijn32tab", laid_math_bits_deBruijn32tab), ("ablaut/multi.steps", laid_ablaut_multi_steps)] }
def MultiAddsSaid : Prop := multiAddsRow.holds Tryd.pinned (OpenSpec.ofChange multiAddsSpec)

/-- ITS FALSE NEIGHBOUR: 'it returns false'. Refute it at one input. -/
def multiAddsWrong : ChangeSpec := { name := "multiAdds", fn := fun _ => fun
  | [d] => { results := [.lit (.bool false)], args := [d] }
  | _ => none }
def MultiAddsWrongFalsely : Prop := multiAddsRow.holds Tryd.pinned (OpenSpec.ofChange multiAddsWrong)

/-- 'ablautlaw18.MultiAdded': WHATEVER THE INPUT: true; the input reads as it did. -/
def multiAddedSpec : ChangeSpec := { name := "multiAdded", fn := fun _ => fun
  | [d1, d2, d3, d4] => { results := [.lit (.bool true)], args := [d1, d2, d3, d4] }
  | _ => none }
def multiAddedRow : OpenClaim := { program := "ytialbhieaipcgaadoor", sum := "e71cfdb40e647cb43604b308a97b26636bd4b513ab9bb6a3073cfd9fbb6ab782", func := "ablaut/ablautlaw18.MultiAdded", spec := "multiAdded", unfollowed := true, recurses := true, named := ["math/bits.deBruijn32tab", "ablaut/multi.steps"], apart := false, laid := [("math/bits.deBruijn32tab", laid_math_bits_deBruijn32tab), ("ablaut/multi.steps", laid_ablaut_multi_steps)] }
def MultiAddedSaid : Prop := multiAddedRow.holds Tryd.pinned (OpenSpec.ofChange multiAddedSpec)

/-- ITS FALSE NEIGHBOUR: 'it returns false'. Refute it at one input. -/
def multiAddedWrong : ChangeSpec := { name := "multiAdded", fn := fun _ => fun
  | [d1, d2, d3, d4] => { results := [.lit (.bool false)], args := [d1, d2, d3, d4] }
  | _ => none }
def MultiAddedWrongFalsely : Prop := multiAddedRow.holds Tryd.pinned (OpenSpec.ofChange multiAddedWrong)

/-- 'ablautlaw18.MultiRefines': WHATEVER THE INPUT: true; the input reads as it did. -/
def multiRefinesSpec : ChangeSpec := { name := "multiRefines", fn := fun _ => fun
  | [d1, d2, d3] => { results := [.lit (.bool true)], args := [d1, d2, d3] }
  | _ => none }
def multiRefinesRow : OpenClaim := { program := "ytialbhieaipcgaadoor", sum := "e71cfdb40e647cb43604b308a97b26636bd4b513ab9bb6a3073cfd9fbb6ab782", func := "ablaut/ablautlaw18.MultiRefines", spec := "multiRefines", unfollowed := true, recurses := true, named := ["math/bits.deBruijn32tab", "ablaut/multi.steps"], apart := false, laid := [("math/bits.deBruijn32tab", laid_math_bits_deBruijn32tab), ("ablaut/multi.steps", laid_ablaut_multi_steps)] }
def MultiRefinesSaid : Prop := multiRefinesRow.holds Tryd.pinned (OpenSpec.ofChange multiRefinesSpec)

/-- ITS FALSE NEIGHBOUR: 'it returns false'. Refute it at one input. -/
def multiRefinesWrong : ChangeSpec := { name := "multiRefines", fn := fun _ => fun
  | [d1, d2, d3] => { results := [.lit (.bool false)], args := [d1, d2, d3] }
  | _ => none }
def MultiRefinesWrongFalsely : Prop := multiRefinesRow.holds Tryd.pinned (OpenSpec.ofChange multiRefinesWrong)

/-- 'ablautlaw18.MultiRefined': WHATEVER THE INPUT: true; the input reads as it did. -/
def multiRefinedSpec : ChangeSpec := { name := "multiRefined", fn := fun _ => fun
  | [d1, d2, d3] => { results := [.lit (.bool true)], args := [d1, d2, d3] }
  | _ => none }
def multiRefinedRow : OpenClaim := { program := "ytialbhieaipcgaadoor", sum := "e71cfdb40e647cb43604b308a97b26636bd4b513ab9bb6a3073cfd9fbb6ab782", func := "ablaut/ablautlaw18.MultiRefined", spec := "multiRefined", unfollowed := true, recurses := true, named := ["math/bits.deBruijn32tab", "ablaut/multi.steps"], apart := false, laid := [("math/bits.deBruijn32tab", laid_math_bits_deBruijn32tab), ("ablaut/multi.steps", laid_ablaut_multi_steps)] }
def MultiRefinedSaid : Prop := multiRefinedRow.holds Tryd.pinned (OpenSpec.ofChange multiRefinedSpec)

/-- ITS FALSE NEIGHBOUR: 'it returns false'. Refute it at one input. -/
def multiRefinedWrong : ChangeSpec := { name := "multiRefined", fn := fun _ => fun
  | [d1, d2, d3] => { results := [.lit (.bool false)], args := [d1, d2, d3] }
  | _ => none }
def MultiRefinedWrongFalsely : Prop := multiRefinedRow.holds Tryd.pinned (OpenSpec.ofChange multiRefinedWrong)

/-- 'ablautlaw18.MultiChecks': WHATEVER THE INPUT: true; the input reads as it did. -/
def multiChecksSpec : ChangeSpec := { name := "multiChecks", fn := fun _ => fun
  | [d1, d2, d3] => { results := [.lit (.bool true)], args := [d1, d2, d3] }
  | _ => none }
def multiChecksRow : OpenClaim := { program := "ytialbhieaipcgaadoor", sum := "e71cfdb40e647cb43604b308a97b26636bd4b513ab9bb6a3073cfd9fbb6ab782", func := "ablaut/ablautlaw18.MultiChecks", spec := "multiChecks", unfollowed := true, recurses := true, named := ["math/bits.deBruijn32tab", "ablaut/multi.steps"], apart := false, laid := [("math/bits.deBruijn32tab", laid_math_bits_deBruijn32tab), ("ablaut/multi.steps", laid_ablaut_multi_steps)] }
def MultiChecksSaid : Prop := multiChecksRow.holds Tryd.pinned (OpenSpec.ofChange multiChecksSpec)

/-- ITS FALSE NEIGHBOUR: 'it returns false'. Refute it at one input. -/
def multiChecksWrong : ChangeSpec := { name := "multiChecks", fn := fun _ => fun
  | [d1, d2, d3] => { results := [.lit (.bool false)], args := [d1, d2, d3] }
  | _ => none }
def MultiChecksWrongFalsely : Prop := multiChecksRow.holds Tryd.pinned (OpenSpec.ofChange multiChecksWrong)

/-- 'ablautlaw18.MultiRows': WHATEVER THE INPUT: true; the input reads as it did. -/
def multiRowsSpec : ChangeSpec := { name := "multiRows", fn := fun _ => fun
  | [d1, d2] => { results := [.lit (.bool true)], args := [d1, d2] }
  | _ => none }
def multiRowsRow : OpenClaim := { program := "ytialbhieaipcgaadoor", sum := "e71cfdb40e647cb43604b308a97b26636bd4b513ab9bb6a3073cfd9fbb6ab782", func := "ablaut/ablautlaw18.MultiRows", spec := "multiRows", unfollowed := true, recurses := true, named := ["math/bits.deBruijn32tab", "ablaut/multi.steps"], apart := false, laid := [("math/bits.deBruijn32tab", laid_math_bits_deBruijn32tab), ("ablaut/multi.steps", laid_ablaut_multi_steps)] }
def MultiRowsSaid : Prop := multiRowsRow.holds Tryd.pinned (OpenSpec.ofChange multiRowsSpec)

/-- ITS FALSE NEIGHBOUR: 'it returns false'. Refute it at one input. -/
def multiRowsWrong : ChangeSpec := { name := "multiRows", fn := fun _ => fun
  | [d1, d2] => { results := [.lit (.bool false)], args := [d1, d2] }
  | _ => none }
def MultiRowsWrongFalsely : Prop := multiRowsRow.holds Tryd.pinned (OpenSpec.ofChange multiRowsWrong)

/-- 'ablautlaw18.MultiKnown': WHATEVER THE INPUT: true; the input reads as it did. -/
def multiKnownSpec : ChangeSpec := { name := "multiKnown", fn := fun _ => fun
  | [] => { results := [.lit (.bool true)], args := [] }
  | _ => none }
def multiKnownRow : OpenClaim := { program := "ytialbhieaipcgaadoor", sum := "e71cfdb40e647cb43604b308a97b26636bd4b513ab9bb6a3073cfd9fbb6ab782", func := "ablaut/ablautlaw18.MultiKnown", spec := "multiKnown", unfollowed := true, recurses := true, named := ["math/bits.deBruijn32tab", "ablaut/multi.steps"], apart := false, laid := [("math/bits.deBruijn32tab", laid_math_bits_deBruijn32tab), ("ablaut/multi.steps", laid_ablaut_multi_steps)] }
def MultiKnownSaid : Prop := multiKnownRow.holds Tryd.pinned (OpenSpec.ofChange multiKnownSpec)

/-- ITS FALSE NEIGHBOUR: 'it returns false'. Refute it at one input. -/
def multiKnownWrong : ChangeSpec := { name := "multiKnown", fn := fun _ => fun
  | [] => { results := [.lit (.bool false)], args := [] }
  | _ => none }
def MultiKnownWrongFalsely : Prop := multiKnownRow.holds Tryd.pinned (OpenSpec.ofChange multiKnownWrong)

/- THE SECOND FORM. 'bulk': how many values and letters a reading holds, each counted each time it is reached (what is shared counts as often as it is met; a slice's spare places count too). A statement '..UptoSaid' is the law's where the arguments, and the package variables that the reading takes, are together of bulk at most 1048576: NARROWER than '..Said'. Prove '..Said' where nothing that the law and all that it calls make is longer than what came in: it says more and counts as full. Else prove '..UptoSaid'. A law counts once. -/
mutual
def uptoBulk {H : Type} : DataW H → Nat
  | .lit (.string bytes) => bytes.length + 1
  | .lit _ => 1
  | .nil => 1
  | .ptr d => uptoBulk d + 1
  | .slice elems spare => uptoBulkAll elems + uptoBulkAll spare + 1
  | .agg parts => uptoBulkAll parts + 1
  | .iface _ d => uptoBulk d + 1
  | .map entries => uptoBulkEntries entries + 1
  | .held _ => 1
def uptoBulkAll {H : Type} : List (DataW H) → Nat
  | [] => 0
  | d :: r => uptoBulk d + uptoBulkAll r
def uptoBulkEntries {H : Type} : List (Lit × DataW H) → Nat
  | [] => 0
  | x :: r => uptoBulkEntry x + uptoBulkEntries r
def uptoBulkEntry {H : Type} : Lit × DataW H → Nat
  | (.string bytes, d) => bytes.length + uptoBulk d + 1
  | (_, d) => uptoBulk d + 1
 end
def uptoSmall : (H : Type) → List (DataW H) → Bool := fun _ ds => decide (uptoBulkAll ds ≤ 1048576)
def OpenSpec.upto (s : _root_.Go.ChangeSpec) : _root_.Go.OpenSpec := { _root_.Go.OpenSpec.ofChange s with cond := some uptoSmall }

/-- 'ablautlaw18.MultiScores', WHERE WHAT IT READS IS OF BULK AT MOST 1048576: true; the input reads as it did. -/
def multiScoresUptoRow : OpenClaim := { program := "ytialbhieaipcgaadoor", sum := "e71cfdb40e647cb43604b308a97b26636bd4b513ab9bb6a3073cfd9fbb6ab782", func := "ablaut/ablautlaw18.MultiScores", spec := "multiScores", unfollowed := true, recurses := true, named := ["math/bits.deBruijn32tab", "ablaut/multi.steps"], apart := false, laid := [("math/bits.deBruijn32tab", laid_math_bits_deBruijn32tab), ("ablaut/multi.steps", laid_ablaut_multi_steps)], narrowed := true }
def MultiScoresUptoSaid : Prop := multiScoresUptoRow.holds Tryd.pinned (OpenSpec.upto multiScoresSpec)

/-- 'ablautlaw18.MultiAligns', WHERE WHAT IT READS IS OF BULK AT MOST 1048576: true; the input reads as it did. -/
def multiAlignsUptoRow : OpenClaim := { program := "ytialbhieaipcgaadoor", sum := "e71cfdb40e647cb43604b308a97b26636bd4b513ab9bb6a3073cfd9fbb6ab782", func := "ablaut/ablautlaw18.MultiAligns", spec := "multiAligns", unfollowed := true, recurses := true, named := ["math/bits.deBruijn32tab", "ablaut/multi.steps"], apart := false, laid := [("math/bits.deBruijn32tab", laid_math_bits_deBruijn32tab), ("ablaut/multi.steps", laid_ablaut_multi_steps)], narrowed := true }
def MultiAlignsUptoSaid : Prop := multiAlignsUptoRow.holds Tryd.pinned (OpenSpec.upto multiAlignsSpec)

/-- 'ablautlaw18.MultiExacts', WHERE WHAT IT READS IS OF BULK AT MOST 1048576: true; the input reads as it did. -/
def multiExactsUptoRow : OpenClaim := { program := "ytialbhieaipcgaadoor", sum := "e71cfdb40e647cb43604b308a97b26636bd4b513ab9bb6a3073cfd9fbb6ab782", func := "ablaut/ablautlaw18.MultiExacts", spec := "multiExacts", unfollowed := true, recurses := true, named := ["math/bits.deBruijn32tab", "ablaut/multi.steps"], apart := false, laid := [("math/bits.deBruijn32tab", laid_math_bits_deBruijn32tab), ("ablaut/multi.steps", laid_ablaut_multi_steps)], narrowed := true }
def MultiExactsUptoSaid : Prop := multiExactsUptoRow.holds Tryd.pinned (OpenSpec.upto multiExactsSpec)

/-- 'ablautlaw18.MultiExact', WHERE WHAT IT READS IS OF BULK AT MOST 1048576: true; the input reads as it did. -/
def multiExactUptoRow : OpenClaim := { program := "ytialbhieaipcgaadoor", sum := "e71cfdb40e647cb43604b308a97b26636bd4b513ab9bb6a3073cfd9fbb6ab782", func := "ablaut/ablautlaw18.MultiExact", spec := "multiExact", unfollowed := true, recurses := true, named := ["math/bits.deBruijn32tab", "ablaut/multi.steps"], apart := false, laid := [("math/bits.deBruijn32tab", laid_math_bits_deBruijn32tab), ("ablaut/multi.steps", laid_ablaut_multi_steps)], narrowed := true }
def MultiExactUptoSaid : Prop := multiExactUptoRow.holds Tryd.pinned (OpenSpec.upto multiExactSpec)

/-- 'ablautlaw18.MultiSums', WHERE WHAT IT READS IS OF BULK AT MOST 1048576: true; the input reads as it did. -/
def multiSumsUptoRow : OpenClaim := { program := "ytialbhieaipcgaadoor", sum := "e71cfdb40e647cb43604b308a97b26636bd4b513ab9bb6a3073cfd9fbb6ab782", func := "ablaut/ablautlaw18.MultiSums", spec := "multiSums", unfollowed := true, recurses := true, named := ["math/bits.deBruijn32tab", "ablaut/multi.steps"], apart := false, laid := [("math/bits.deBruijn32tab", laid_math_bits_deBruijn32tab), ("ablaut/multi.steps", laid_ablaut_multi_steps)], narrowed := true }
def MultiSumsUptoSaid : Prop := multiSumsUptoRow.holds Tryd.pinned (OpenSpec.upto multiSumsSpec)

/-- 'ablautlaw18.MultiAdds', WHERE WHAT IT READS IS OF BULK AT MOST 1048576: true; the input reads as it did. -/
def multiAddsUptoRow : OpenClaim := { program := "ytialbhieaipcgaadoor", sum := "e71cfdb40e647cb43604b308a97b26636bd4b513ab9bb6a3073cfd9fbb6ab782", func := "ablaut/ablautlaw18.MultiAdds", spec := "multiAdds", unfollowed := true, recurses := true, named := ["math/bits.deBruijn32tab", "ablaut/multi.steps"], apart := false, laid := [("math/bits.deBruijn32tab", laid_math_bits_deBruijn32tab), ("ablaut/multi.steps", laid_ablaut_multi_steps)], narrowed := true }
def MultiAddsUptoSaid : Prop := multiAddsUptoRow.holds Tryd.pinned (OpenSpec.upto multiAddsSpec)

/-- 'ablautlaw18.MultiAdded', WHERE WHAT IT READS IS OF BULK AT MOST 1048576: true; the input reads as it did. -/
def multiAddedUptoRow : OpenClaim := { program := "ytialbhieaipcgaadoor", sum := "e71cfdb40e647cb43604b308a97b26636bd4b513ab9bb6a3073cfd9fbb6ab782", func := "ablaut/ablautlaw18.MultiAdded", spec := "multiAdded", unfollowed := true, recurses := true, named := ["math/bits.deBruijn32tab", "ablaut/multi.steps"], apart := false, laid := [("math/bits.deBruijn32tab", laid_math_bits_deBruijn32tab), ("ablaut/multi.steps", laid_ablaut_multi_steps)], narrowed := true }
def MultiAddedUptoSaid : Prop := multiAddedUptoRow.holds Tryd.pinned (OpenSpec.upto multiAddedSpec)

/-- 'ablautlaw18.MultiRefines', WHERE WHAT IT READS IS OF BULK AT MOST 1048576: true; the input reads as it did. -/
def multiRefinesUptoRow : OpenClaim := { program := "ytialbhieaipcgaadoor", sum := "e71cfdb40e647cb43604b308a97b26636bd4b513ab9bb6a3073cfd9fbb6ab782", func := "ablaut/ablautlaw18.MultiRefines", spec := "multiRefines", unfollowed := true, recurses := true, named := ["math/bits.deBruijn32tab", "ablaut/multi.steps"], apart := false, laid := [("math/bits.deBruijn32tab", laid_math_bits_deBruijn32tab), ("ablaut/multi.steps", laid_ablaut_multi_steps)], narrowed := true }
def MultiRefinesUptoSaid : Prop := multiRefinesUptoRow.holds Tryd.pinned (OpenSpec.upto multiRefinesSpec)

/-- 'ablautlaw18.MultiRefined', WHERE WHAT IT READS IS OF BULK AT MOST 1048576: true; the input reads as it did. -/
def multiRefinedUptoRow : OpenClaim := { program := "ytialbhieaipcgaadoor", sum := "e71cfdb40e647cb43604b308a97b26636bd4b513ab9bb6a3073cfd9fbb6ab782", func := "ablaut/ablautlaw18.MultiRefined", spec := "multiRefined", unfollowed := true, recurses := true, named := ["math/bits.deBruijn32tab", "ablaut/multi.steps"], apart := false, laid := [("math/bits.deBruijn32tab", laid_math_bits_deBruijn32tab), ("ablaut/multi.steps", laid_ablaut_multi_steps)], narrowed := true }
def MultiRefinedUptoSaid : Prop := multiRefinedUptoRow.holds Tryd.pinned (OpenSpec.upto multiRefinedSpec)

/-- 'ablautlaw18.MultiChecks', WHERE WHAT IT READS IS OF BULK AT MOST 1048576: true; the input reads as it did. -/
def multiChecksUptoRow : OpenClaim := { program := "ytialbhieaipcgaadoor", sum := "e71cfdb40e647cb43604b308a97b26636bd4b513ab9bb6a3073cfd9fbb6ab782", func := "ablaut/ablautlaw18.MultiChecks", spec := "multiChecks", unfollowed := true, recurses := true, named := ["math/bits.deBruijn32tab", "ablaut/multi.steps"], apart := false, laid := [("math/bits.deBruijn32tab", laid_math_bits_deBruijn32tab), ("ablaut/multi.steps", laid_ablaut_multi_steps)], narrowed := true }
def MultiChecksUptoSaid : Prop := multiChecksUptoRow.holds Tryd.pinned (OpenSpec.upto multiChecksSpec)

/-- 'ablautlaw18.MultiRows', WHERE WHAT IT READS IS OF BULK AT MOST 1048576: true; the input reads as it did. -/
def multiRowsUptoRow : OpenClaim := { program := "ytialbhieaipcgaadoor", sum := "e71cfdb40e647cb43604b308a97b26636bd4b513ab9bb6a3073cfd9fbb6ab782", func := "ablaut/ablautlaw18.MultiRows", spec := "multiRows", unfollowed := true, recurses := true, named := ["math/bits.deBruijn32tab", "ablaut/multi.steps"], apart := false, laid := [("math/bits.deBruijn32tab", laid_math_bits_deBruijn32tab), ("ablaut/multi.steps", laid_ablaut_multi_steps)], narrowed := true }
def MultiRowsUptoSaid : Prop := multiRowsUptoRow.holds Tryd.pinned (OpenSpec.upto multiRowsSpec)

/-- 'ablautlaw18.MultiKnown', WHERE WHAT IT READS IS OF BULK AT MOST 1048576: true; the input reads as it did. -/
def multiKnownUptoRow : OpenClaim := { program := "ytialbhieaipcgaadoor", sum := "e71cfdb40e647cb43604b308a97b26636bd4b513ab9bb6a3073cfd9fbb6ab782", func := "ablaut/ablautlaw18.MultiKnown", spec := "multiKnown", unfollowed := true, recurses := true, named := ["math/bits.deBruijn32tab", "ablaut/multi.steps"], apart := false, laid := [("math/bits.deBruijn32tab", laid_math_bits_deBruijn32tab), ("ablaut/multi.steps", laid_ablaut_multi_steps)], narrowed := true }
def MultiKnownUptoSaid : Prop := multiKnownUptoRow.holds Tryd.pinned (OpenSpec.upto multiKnownSpec)

end Rows
end Go.Proofs.YtialbhieaipcgaaDoor
