/-
  NARROWER THAN 'FOR EVERY INPUT', by the rows' own cells (each row's printed sentence says how): AnalogySolves: laid · AnalogyExtends: laid · AnalogyLevels: laid · AnalogyNone: laid · AnalogyLevel: laid · AnalogyHolds: laid · AnalogyEnds: laid · AnalogyCounts: laid · AnalogyMost: laid · AnalogyMirror: laid · AnalogySums: laid.
  DERIVED. THE GIVEN ROWS OF THIS SEAT. 11 by the template 'for every input the law returns true; each argument reads behind the call as it read before'; 0 by the template 'total and deterministic' (their statements: YtpbbnmjkbfbelaaDoorTotals.lean).
  GIVEN WITH THE SEED: the statements are not yours to turn. If you find one false, say at which input.
  Laid BY PROGRAM, IN A SANDBOX (cutbox-rows.mjs): the forced cells as the released guide's own fill.sh prints them over the translation 9ac63c7954b830e2… (all of the seat's roots in one cut). By AI agents, Wed Nov 11 2026. No macro, syntax, notation, axiom, sorry.
-/
import Derived.Test.YtpbbnmjkbfbelaaDoorChecked
import GoSem.Claim
import GoSem.ClaimJoined
import GoSem.ClaimMapViews
import Derived.JoinedTies
import Derived.KernelRfl
namespace Go.Proofs.YtpbbnmjkbfbelaaDoor
/- THE CELL 'sum', in the pinned program and in every row, IS THE sha256 OF THE DUMP (.gsa) THAT YtpbbnmjkbfbelaaDoorProg.lean LOADS. Nothing in Lean hashes anything: it is a label: what it is worth is what the hold of that sum in a sandbox is worth. -/
noncomputable def Tryd.pinned : Pinned := { name := "ytpbbnmjkbfbelaadoor", sum := "9ac63c7954b830e2fb1378141c81fe2d42a22679f8faa37ebaf6c6e9a4d73240", checked := Tryd.checked }
namespace Rows
def none {H : Type} : Left H := { results := [], args := [] }

/- WHAT THE LISTED PACKAGE-LEVEL VARIABLES READ AS WHEN THE CALL BEGINS. Each datum BY PROGRAM (the guide's laid-datum.mjs) off the statement by which the dump's own 'gosem.cut.vars' lays the variable. In a bare row this is a premise. The card (YtpbbnmjkbfbelaaDoorCards.lean) ties it to the program's text. -/
def laid_ablaut_analogy_ending {H : Type} : DataW H := .iface "func table" (.agg [.iface "func" (.lit (.string [97, 98, 108, 97, 117, 116, 47, 97, 110, 97, 108, 111, 103, 121, 46, 101, 110, 100, 105, 110, 103, 36, 49])), .iface "func" (.lit (.string [97, 98, 108, 97, 117, 116, 47, 97, 110, 97, 108, 111, 103, 121, 46, 101, 110, 100, 105, 110, 103, 36, 50]))])
def laid_ablaut_analogy_beginning {H : Type} : DataW H := .iface "func table" (.agg [.iface "func" (.lit (.string [97, 98, 108, 97, 117, 116, 47, 97, 110, 97, 108, 111, 103, 121, 46, 98, 101, 103, 105, 110, 110, 105, 110, 103, 36, 49])), .iface "func" (.lit (.string [97, 98, 108, 97, 117, 116, 47, 97, 110, 97, 108, 111, 103, 121, 46, 98, 101, 103, 105, 110, 110, 105, 110, 103, 36, 50]))])

/-- 'ablautlaw30.AnalogySolves': WHATEVER THE INPUT: true; the input reads as it did. -/
def analogySolvesSpec : ChangeSpec := { name := "analogySolves", fn := fun _ => fun
  | [d1, d2, d3] => { results := [.lit (.bool true)], args := [d1, d2, d3] }
  | _ => none }
def analogySolvesRow : OpenClaim := { program := "ytpbbnmjkbfbelaadoor", sum := "9ac63c7954b830e2fb1378141c81fe2d42a22679f8faa37ebaf6c6e9a4d73240", func := "ablaut/ablautlaw30.AnalogySolves", spec := "analogySolves", unfollowed := true, recurses := true, named := ["ablaut/analogy.ending", "ablaut/analogy.beginning"], apart := false, laid := [("ablaut/analogy.ending", laid_ablaut_analogy_ending), ("ablaut/analogy.beginning", laid_ablaut_analogy_beginning)] }
def AnalogySolvesSaid : Prop := analogySolvesRow.holds Tryd.pinned (OpenSpec.ofChange analogySolvesSpec)

/-- ITS FALSE NEIGHBOUR: 'it returns false'. Refute it at one input. -/
def analogySolvesWrong : ChangeSpec := { name := "analogySolves", fn := fun _ => fun
  | [d1, d2, d3] => { results := [.lit (.bool false)], args := [d1, d2, d3] }
  | _ => none }
def AnalogySolvesWrongFalsely : Prop := analogySolvesRow.holds Tryd.pinned (OpenSpec.ofChange analogySolvesWrong)

/-- 'ablautlaw30.AnalogyExtends': WHATEVER THE INPUT: true; the input reads as it did. -/
def analogyExtendsSpec : ChangeSpec := { name := "analogyExtends", fn := fun _ => fun
  | [d1, d2] => { results := [.lit (.bool true)], args := [d1, d2] }
  | _ => none }
def analogyExtendsRow : OpenClaim := { program := "ytpbbnmjkbfbelaadoor", sum := "9ac63c7954b830e2fb1378141c81fe2d42a22679f8faa37ebaf6c6e9a4d73240", func := "ablaut/ablautlaw30.AnalogyExtends", spec := "analogyExtends", unfollowed := true, recurses := true, named := ["ablaut/analogy.ending", "ablaut/analogy.beginning"], apart := false, laid := [("ablaut/analogy.ending", laid_ablaut_analogy_ending), ("ablaut/analogy.beginning", laid_ablaut_analogy_beginning)] }
def AnalogyExtendsSaid : Prop := analogyExtendsRow.holds Tryd.pinned (OpenSpec.ofChange analogyExtendsSpec)

/-- ITS FALSE NEIGHBOUR: 'it returns false'. Refute it at one input. -/
def analogyExtendsWrong : ChangeSpec := { name := "analogyExtends", fn := fun _ => fun
  | [d1, d2] => { results := [.lit (.bool false)], args := [d1, d2] }
  | _ => none }
def AnalogyExtendsWrongFalsely : Prop := analogyExtendsRow.holds Tryd.pinned (OpenSpec.ofChange analogyExtendsWrong)

/-- 'ablautlaw30.AnalogyLevels': WHATEVER THE INPUT: true; the input reads as it did. -/
def analogyLevelsSpec : ChangeSpec := { name := "analogyLevels", fn := fun _ => fun
  | [d1, d2, d3] => { results := [.lit (.bool true)], args := [d1, d2, d3] }
  | _ => none }
def analogyLevelsRow : OpenClaim := { program := "ytpbbnmjkbfbelaadoor", sum := "9ac63c7954b830e2fb1378141c81fe2d42a22679f8faa37ebaf6c6e9a4d73240", func := "ablaut/ablautlaw30.AnalogyLevels", spec := "analogyLevels", unfollowed := true, recurses := true, named := ["ablaut/analogy.ending", "ablaut/analogy.beginning"], apart := false, laid := [("ablaut/analogy.ending", laid_ablaut_analogy_ending), ("ablaut/analogy.beginning", laid_ablaut_analogy_beginning)] }
def AnalogyLevelsSaid : Prop := analogyLevelsRow.holds Tryd.pinned (OpenSpec.ofChange analogyLevelsSpec)

/-- ITS FALSE NEIGHBOUR: 'it returns false'. Refute it at one input. -/
def analogyLevelsWrong : ChangeSpec := { name := "analogyLevels", fn := fun _ => fun
  | [d1, d2, d3] => { results := [.lit (.bool false)], args := [d1, d2, d3] }
  | _ => none }
def AnalogyLevelsWrongFalsely : Prop := analogyLevelsRow.holds Tryd.pinned (OpenSpec.ofChange analogyLevelsWrong)

/-- 'ablautlaw30.AnalogyNone': WHATEVER THE INPUT: true; the input reads as it did. -/
def analogyNoneSpec : ChangeSpec := { name := "analogyNone", fn := fun _ => fun
  | [d1, d2, d3] => { results := [.lit (.bool true)], args := [d1, d2, d3] }
  | _ => none }
def analogyNoneRow : OpenClaim := { program := "ytpbbnmjkbfbelaadoor", sum := "9ac63c7954b830e2fb1378141c81fe2d42a22679f8faa37ebaf6c6e9a4d73240", func := "ablaut/ablautlaw30.AnalogyNone", spec := "analogyNone", unfollowed := true, recurses := true, named := ["ablaut/analogy.ending", "ablaut/analogy.beginning"], apart := false, laid := [("ablaut/analogy.ending", laid_ablaut_analogy_ending), ("ablaut/analogy.beginning", laid_ablaut_analogy_beginning)] }
def AnalogyNoneSaid : Prop := analogyNoneRow.holds Tryd.pinned (OpenSpec.ofChange analogyNoneSpec)

/-- ITS FALSE NEIGHBOUR: 'it returns false'. Refute it at one input. -/
def analogyNoneWrong : ChangeSpec := { name := "analogyNone", fn := fun _ => fun
  | [d1, d2, d3] => { results := [.lit (.bool false)], args := [d1, d2, d3] }
  | _ => none }
def AnalogyNoneWrongFalsely : Prop := analogyNoneRow.holds Tryd.pinned (OpenSpec.ofChange analogyNoneWrong)

/-- 'ablautlaw30.AnalogyLevel': WHATEVER THE INPUT: true; the input reads as it did. -/
def analogyLevelSpec : ChangeSpec := { name := "analogyLevel", fn := fun _ => fun
  | [d1, d2, d3] => { results := [.lit (.bool true)], args := [d1, d2, d3] }
  | _ => none }
def analogyLevelRow : OpenClaim := { program := "ytpbbnmjkbfbelaadoor", sum := "9ac63c7954b830e2fb1378141c81fe2d42a22679f8faa37ebaf6c6e9a4d73240", func := "ablaut/ablautlaw30.AnalogyLevel", spec := "analogyLevel", unfollowed := true, recurses := true, named := ["ablaut/analogy.ending", "ablaut/analogy.beginning"], apart := false, laid := [("ablaut/analogy.ending", laid_ablaut_analogy_ending), ("ablaut/analogy.beginning", laid_ablaut_analogy_beginning)] }
def AnalogyLevelSaid : Prop := analogyLevelRow.holds Tryd.pinned (OpenSpec.ofChange analogyLevelSpec)

/-- ITS FALSE NEIGHBOUR: 'it returns false'. Refute it at one input. -/
def analogyLevelWrong : ChangeSpec := { name := "analogyLevel", fn := fun _ => fun
  | [d1, d2, d3] => { results := [.lit (.bool false)], args := [d1, d2, d3] }
  | _ => none }
def AnalogyLevelWrongFalsely : Prop := analogyLevelRow.holds Tryd.pinned (OpenSpec.ofChange analogyLevelWrong)

/-- 'ablautlaw30.AnalogyHolds': WHATEVER THE INPUT: true; the input reads as it did. -/
def analogyHoldsSpec : ChangeSpec := { name := "analogyHolds", fn := fun _ => fun
  | [d] => { results := [.lit (.bool true)], args := [d] }
  | _ => none }
def analogyHoldsRow : OpenClaim := { program := "ytpbbnmjkbfbelaadoor", sum := "9ac63c7954b830e2fb1378141c81fe2d42a22679f8faa37ebaf6c6e9a4d73240", func := "ablaut/ablautlaw30.AnalogyHolds", spec := "analogyHolds", unfollowed := true, recurses := true, named := ["ablaut/analogy.ending", "ablaut/analogy.beginning"], apart := false, laid := [("ablaut/analogy.ending", laid_ablaut_analogy_ending), ("ablaut/analogy.beginning", laid_ablaut_analogy_beginning)] }
def AnalogyHoldsSaid : Prop := analogyHoldsRow.holds Tryd.pinned (OpenSpec.ofChange analogyHoldsSpec)

/-- ITS FALSE NEIGHBOUR: 'it returns false'. Refute it at one input. -/
def analogyHoldsWrong : ChangeSpec := { name := "analogyHolds", fn := fun _ => fun
  | [d] => { results := [.lit (.bool false)], args := [d] }
  | _ => none }
def AnalogyHoldsWrongFalsely : Prop := analogyHoldsRow.holds Tryd.pinned (OpenSpec.ofChange analogyHoldsWrong)

/-- 'ablautlaw30.AnalogyEnds': WHATEVER THE INPUT: true; the input reads as it did. -/
def analogyEndsSpec : ChangeSpec := { name := "analogyEnds", fn := fun _ => fun
  | [d1, d2, d3, d4] => { results := [.lit (.bool true)], args := [d1, d2, d3, d4] }
  | _ => none }
def analogyEndsRow : OpenClaim := { program := "ytpbbnmjkbfbelaadoor", sum := "9ac63c7954b830e2fb1378141c81fe2d42a22679f8faa37ebaf6c6e9a4d73240", func := "ablaut/ablautlaw30.AnalogyEnds", spec := "analogyEnds", unfollowed := true, recurses := true, named := ["ablaut/analogy.ending", "ablaut/analogy.beginning"], apart := false, laid := [("ablaut/analogy.ending", laid_ablaut_analogy_ending), ("ablaut/analogy.beginning", laid_ablaut_analogy_beginning)] }
def AnalogyEndsSaid : Prop := analogyEndsRow.holds Tryd.pinned (OpenSpec.ofChange analogyEndsSpec)

/-- ITS FALSE NEIGHBOUR: 'it returns false'. Refute it at one input. -/
def analogyEndsWrong : ChangeSpec := { name := "analogyEnds", fn := fun _ => fun
  | [d1, d2, d3, d4] => { results := [.lit (.bool false)], args := [d1, d2, d3, d4] }
  | _ => none }
def AnalogyEndsWrongFalsely : Prop := analogyEndsRow.holds Tryd.pinned (OpenSpec.ofChange analogyEndsWrong)

/-- 'ablautlaw30.AnalogyCounts': WHATEVER THE INPUT: true; the input reads as it did. -/
def analogyCountsSpec : ChangeSpec := { name := "analogyCounts", fn := fun _ => fun
  | [d1, d2, d3] => { results := [.lit (.bool true)], args := [d1, d2, d3] }
  | _ => none }
def analogyCountsRow : OpenClaim := { program := "ytpbbnmjkbfbelaadoor", sum := "9ac63c7954b830e2fb1378141c81fe2d42a22679f8faa37ebaf6c6e9a4d73240", func := "ablaut/ablautlaw30.AnalogyCounts", spec := "analogyCounts", unfollowed := true, recurses := true, named := ["ablaut/analogy.ending", "ablaut/analogy.beginning"], apart := false, laid := [("ablaut/analogy.ending", laid_ablaut_analogy_ending), ("ablaut/analogy.beginning", laid_ablaut_analogy_beginning)] }
def AnalogyCountsSaid : Prop := analogyCountsRow.holds Tryd.pinned (OpenSpec.ofChange analogyCountsSpec)

/-- ITS FALSE NEIGHBOUR: 'it returns false'. Refute it at one input. -/
def analogyCountsWrong : ChangeSpec := { name := "analogyCounts", fn := fun _ => fun
  | [d1, d2, d3] => { results := [.lit (.bool false)], args := [d1, d2, d3] }
  | _ => none }
def AnalogyCountsWrongFalsely : Prop := analogyCountsRow.holds Tryd.pinned (OpenSpec.ofChange analogyCountsWrong)

/-- 'ablautlaw30.AnalogyMost': WHATEVER THE INPUT: true; the input reads as it did. -/
def analogyMostSpec : ChangeSpec := { name := "analogyMost", fn := fun _ => fun
  | [d1, d2] => { results := [.lit (.bool true)], args := [d1, d2] }
  | _ => none }
def analogyMostRow : OpenClaim := { program := "ytpbbnmjkbfbelaadoor", sum := "9ac63c7954b830e2fb1378141c81fe2d42a22679f8faa37ebaf6c6e9a4d73240", func := "ablaut/ablautlaw30.AnalogyMost", spec := "analogyMost", unfollowed := true, recurses := true, named := ["ablaut/analogy.ending", "ablaut/analogy.beginning"], apart := false, laid := [("ablaut/analogy.ending", laid_ablaut_analogy_ending), ("ablaut/analogy.beginning", laid_ablaut_analogy_beginning)] }
def AnalogyMostSaid : Prop := analogyMostRow.holds Tryd.pinned (OpenSpec.ofChange analogyMostSpec)

/-- ITS FALSE NEIGHBOUR: 'it returns false'. Refute it at one input. -/
def analogyMostWrong : ChangeSpec := { name := "analogyMost", fn := fun _ => fun
  | [d1, d2] => { results := [.lit (.bool false)], args := [d1, d2] }
  | _ => none }
def AnalogyMostWrongFalsely : Prop := analogyMostRow.holds Tryd.pinned (OpenSpec.ofChange analogyMostWrong)

/-- 'ablautlaw30.AnalogyMirror': WHATEVER THE INPUT: true; the input reads as it did. -/
def analogyMirrorSpec : ChangeSpec := { name := "analogyMirror", fn := fun _ => fun
  | [d1, d2, d3] => { results := [.lit (.bool true)], args := [d1, d2, d3] }
  | _ => none }
def analogyMirrorRow : OpenClaim := { program := "ytpbbnmjkbfbelaadoor", sum := "9ac63c7954b830e2fb1378141c81fe2d42a22679f8faa37ebaf6c6e9a4d73240", func := "ablaut/ablautlaw30.AnalogyMirror", spec := "analogyMirror", unfollowed := true, recurses := true, named := ["ablaut/analogy.ending", "ablaut/analogy.beginning"], apart := false, laid := [("ablaut/analogy.ending", laid_ablaut_analogy_ending), ("ablaut/analogy.beginning", laid_ablaut_analogy_beginning)] }
def AnalogyMirrorSaid : Prop := analogyMirrorRow.holds Tryd.pinned (OpenSpec.ofChange analogyMirrorSpec)

/-- ITS FALSE NEIGHBOUR: 'it returns false'. Refute it at one input. -/
def analogyMirrorWrong : ChangeSpec := { name := "analogyMirror", fn := fun _ => fun
  | [d1, d2, d3] => { results := [.lit (.bool false)], args := [d1, d2, d3] }
  | _ => none }
def AnalogyMirrorWrongFalsely : Prop := analogyMirrorRow.holds Tryd.pinned (OpenSpec.ofChange analogyMirrorWrong)

/-- 'ablautlaw30.AnalogySums': WHATEVER THE INPUT: true; the input reads as it did. -/
def analogySumsSpec : ChangeSpec := { name := "analogySums", fn := fun _ => fun
  | [d1, d2, d3] => { results := [.lit (.bool true)], args := [d1, d2, d3] }
  | _ => none }
def analogySumsRow : OpenClaim := { program := "ytpbbnmjkbfbelaadoor", sum := "9ac63c7954b830e2fb1378141c81fe2d42a22679f8faa37ebaf6c6e9a4d73240", func := "ablaut/ablautlaw30.AnalogySums", spec := "analogySums", unfollowed := true, recurses := true, named := ["ablaut/analogy.ending", "ablaut/analogy.beginning"], apart := false, laid := [("ablaut/analogy.ending", laid_ablaut_analogy_ending), ("ablaut/analogy.beginning", laid_ablaut_analogy_beginning)] }
def AnalogySumsSaid : Prop := analogySumsRow.holds Tryd.pinned (OpenSpec.ofChange analogySumsSpec)

/-- ITS FALSE NEIGHBOUR: 'it returns false'. Refute it at one input. -/
def analogySumsWrong : ChangeSpec := { name := "analogySums", fn := fun _ => fun
  | [d1, d2, d3] => { results := [.lit (.bool false)], args := [d1, d2, d3] }
  | _ => none }
def AnalogySumsWrongFalsely : Prop := analogySumsRow.holds Tryd.pinned (OpenSpec.ofChange analogySumsWrong)

/- THE SECOND FORM. 'bulk': how many values and letters a reading holds, each counted each time it is reached (what is shared counts as often as it is met; a slice's spare places count too). A statement '..UptoSaid' is the law's where the arguments, and the package variables that the reading takes, are together of bulk at most 1048576: NARROWER than '..Said'. Prove '..Said' where nothing that the law and all that it calls make is longer than what came in: it says more and counts as full. Else prove '..UptoSaid'. A law counts once. -/
mutual
def uptoBulk {H : Type} : DataW H → Nat
  | .lit (.string bytes) => bytes.length + 1
  | .lit _ => 1
  | .nil => 1
  | .ptr d => uptoBulk d + 1
  | .slice elems spare => uptoBulkAll elems + uptoBulkAll spare + 1
  | .agg parts => uptoBulkAll parts + 1
  | .iface _ d => uptoBulk d + 1
  | .map entries => uptoBulkEntries entries + 1
  | .held _ => 1
def uptoBulkAll {H : Type} : List (DataW H) → Nat
  | [] => 0
  | d :: r => uptoBulk d + uptoBulkAll r
def uptoBulkEntries {H : Type} : List (Lit × DataW H) → Nat
  | [] => 0
  | x :: r => uptoBulkEntry x + uptoBulkEntries r
def uptoBulkEntry {H : Type} : Lit × DataW H → Nat
  | (.string bytes, d) => bytes.length + uptoBulk d + 1
  | (_, d) => uptoBulk d + 1
 end
def uptoSmall : (H : Type) → List (DataW H) → Bool := fun _ ds => decide (uptoBulkAll ds ≤ 1048576)
def OpenSpec.upto (s : _root_.Go.ChangeSpec) : _root_.Go.OpenSpec := { _root_.Go.OpenSpec.ofChange s with cond := some uptoSmall }

/-- 'ablautlaw30.AnalogySolves', WHERE WHAT IT READS IS OF BULK AT MOST 1048576: true; the input reads as it did. -/
def analogySolvesUptoRow : OpenClaim := { program := "ytpbbnmjkbfbelaadoor", sum := "9ac63c7954b830e2fb1378141c81fe2d42a22679f8faa37ebaf6c6e9a4d73240", func := "ablaut/ablautlaw30.AnalogySolves", spec := "analogySolves", unfollowed := true, recurses := true, named := ["ablaut/analogy.ending", "ablaut/analogy.beginning"], apart := false, laid := [("ablaut/analogy.ending", laid_ablaut_analogy_ending), ("ablaut/analogy.beginning", laid_ablaut_analogy_beginning)], narrowed := true }
def AnalogySolvesUptoSaid : Prop := analogySolvesUptoRow.holds Tryd.pinned (OpenSpec.upto analogySolvesSpec)

/-- 'ablautlaw30.AnalogyExtends', WHERE WHAT IT READS IS OF BULK AT MOST 1048576: true; the input reads as it did. -/
def analogyExtendsUptoRow : OpenClaim := { program := "ytpbbnmjkbfbelaadoor", sum := "9ac63c7954b830e2fb1378141c81fe2d42a22679f8faa37ebaf6c6e9a4d73240", func := "ablaut/ablautlaw30.AnalogyExtends", spec := "analogyExtends", unfollowed := true, recurses := true, named := ["ablaut/analogy.ending", "ablaut/analogy.beginning"], apart := false, laid := [("ablaut/analogy.ending", laid_ablaut_analogy_ending), ("ablaut/analogy.beginning", laid_ablaut_analogy_beginning)], narrowed := true }
def AnalogyExtendsUptoSaid : Prop := analogyExtendsUptoRow.holds Tryd.pinned (OpenSpec.upto analogyExtendsSpec)

/-- 'ablautlaw30.AnalogyLevels', WHERE WHAT IT READS IS OF BULK AT MOST 1048576: true; the input reads as it did. -/
def analogyLevelsUptoRow : OpenClaim := { program := "ytpbbnmjkbfbelaadoor", sum := "9ac63c7954b830e2fb1378141c81fe2d42a22679f8faa37ebaf6c6e9a4d73240", func := "ablaut/ablautlaw30.AnalogyLevels", spec := "analogyLevels", unfollowed := true, recurses := true, named := ["ablaut/analogy.ending", "ablaut/analogy.beginning"], apart := false, laid := [("ablaut/analogy.ending", laid_ablaut_analogy_ending), ("ablaut/analogy.beginning", laid_ablaut_analogy_beginning)], narrowed := true }
def AnalogyLevelsUptoSaid : Prop := analogyLevelsUptoRow.holds Tryd.pinned (OpenSpec.upto analogyLevelsSpec)

/-- 'ablautlaw30.AnalogyNone', WHERE WHAT IT READS IS OF BULK AT MOST 1048576: true; the input reads as it did. -/
def analogyNoneUptoRow : OpenClaim := { program := "ytpbbnmjkbfbelaadoor", sum := "9ac63c7954b830e2fb1378141c81fe2d42a22679f8faa37ebaf6c6e9a4d73240", func := "ablaut/ablautlaw30.AnalogyNone", spec := "analogyNone", unfollowed := true, recurses := true, named := ["ablaut/analogy.ending", "ablaut/analogy.beginning"], apart := false, laid := [("ablaut/analogy.ending", laid_ablaut_analogy_ending), ("ablaut/analogy.beginning", laid_ablaut_analogy_beginning)], narrowed := true }
def AnalogyNoneUptoSaid : Prop := analogyNoneUptoRow.holds Tryd.pinned (OpenSpec.upto analogyNoneSpec)

/-- 'ablautlaw30.AnalogyLevel', WHERE WHAT IT READS IS OF BULK AT MOST 1048576: true; the input reads as it did. -/
def analogyLevelUptoRow : OpenClaim := { program := "ytpbbnmjkbfbelaadoor", sum := "9ac63c7954b830e2fb1378141c81fe2d42a22679f8faa37ebaf6c6e9a4d73240", func := "ablaut/ablautlaw30.AnalogyLevel", spec := "analogyLevel", unfollowed := true, recurses := true, named := ["ablaut/analogy.ending", "ablaut/analogy.beginning"], apart := false, laid := [("ablaut/analogy.ending", laid_ablaut_analogy_ending), ("ablaut/analogy.beginning", laid_ablaut_analogy_beginning)], narrowed := true }
def AnalogyLevelUptoSaid : Prop := analogyLevelUptoRow.holds Tryd.pinned (OpenSpec.upto analogyLevelSpec)

/-- 'ablautlaw30.AnalogyHolds', WHERE WHAT IT READS IS OF BULK AT MOST 1048576: true; the input reads as it did. -/
def analogyHoldsUptoRow : OpenClaim := { program := "ytpbbnmjkbfbelaadoor", sum := "9ac63c7954b830e2fb1378141c81fe2d42a22679f8faa37ebaf6c6e9a4d73240", func := "ablaut/ablautlaw30.AnalogyHolds", spec := "analogyHolds", unfollowed := true, recurses := true, named := ["ablaut/analogy.ending", "ablaut/analogy.beginning"], apart := false, laid := [("ablaut/analogy.ending", laid_ablaut_analogy_ending), ("ablaut/analogy.beginning", laid_ablaut_analogy_beginning)], narrowed := true }
def AnalogyHoldsUptoSaid : Prop := analogyHoldsUptoRow.holds Tryd.pinned (OpenSpec.upto analogyHoldsSpec)

/-- 'ablautlaw30.AnalogyEnds', WHERE WHAT IT READS IS OF BULK AT MOST 1048576: true; the input reads as it did. -/
def analogyEndsUptoRow : OpenClaim := { program := "ytpbbnmjkbfbelaadoor", sum := "9ac63c7954b830e2fb1378141c81fe2d42a22679f8faa37ebaf6c6e9a4d73240", func := "ablaut/ablautlaw30.AnalogyEnds", spec := "analogyEnds", unfollowed := true, recurses := true, named := ["ablaut/analogy.ending", "ablaut/analogy.beginning"], apart := false, laid := [("ablaut/analogy.ending", laid_ablaut_analogy_ending), ("ablaut/analogy.beginning", laid_ablaut_analogy_beginning)], narrowed := true }
def AnalogyEndsUptoSaid : Prop := analogyEndsUptoRow.holds Tryd.pinned (OpenSpec.upto analogyEndsSpec)

/-- 'ablautlaw30.AnalogyCounts', WHERE WHAT IT READS IS OF BULK AT MOST 1048576: true; the input reads as it did. -/
def analogyCountsUptoRow : OpenClaim := { program := "ytpbbnmjkbfbelaadoor", sum := "9ac63c7954b830e2fb1378141c81fe2d42a22679f8faa37ebaf6c6e9a4d73240", func := "ablaut/ablautlaw30.AnalogyCounts", spec := "analogyCounts", unfollowed := true, recurses := true, named := ["ablaut/analogy.ending", "ablaut/analogy.beginning"], apart := false, laid := [("ablaut/analogy.ending", laid_ablaut_analogy_ending), ("ablaut/analogy.beginning", laid_ablaut_analogy_beginning)], narrowed := true }
def AnalogyCountsUptoSaid : Prop := analogyCountsUptoRow.holds Tryd.pinned (OpenSpec.upto analogyCountsSpec)

/-- 'ablautlaw30.AnalogyMost', WHERE WHAT IT READS IS OF BULK AT MOST 1048576: true; the input reads as it did. -/
def analogyMostUptoRow : OpenClaim := { program := "ytpbbnmjkbfbelaadoor", sum := "9ac63c7954b830e2fb1378141c81fe2d42a22679f8faa37ebaf6c6e9a4d73240", func := "ablaut/ablautlaw30.AnalogyMost", spec := "analogyMost", unfollowed := true, recurses := true, named := ["ablaut/analogy.ending", "ablaut/analogy.beginning"], apart := false, laid := [("ablaut/analogy.ending", laid_ablaut_analogy_ending), ("ablaut/analogy.beginning", laid_ablaut_analogy_beginning)], narrowed := true }
def AnalogyMostUptoSaid : Prop := analogyMostUptoRow.holds Tryd.pinned (OpenSpec.upto analogyMostSpec)

/-- 'ablautlaw30.AnalogyMirror', WHERE WHAT IT READS IS OF BULK AT MOST 1048576: true; the input reads as it did. -/
def analogyMirrorUptoRow : OpenClaim := { program := "ytpbbnmjkbfbelaadoor", sum := "9ac63c7954b830e2fb1378141c81fe2d42a22679f8faa37ebaf6c6e9a4d73240", func := "ablaut/ablautlaw30.AnalogyMirror", spec := "analogyMirror", unfollowed := true, recurses := true, named := ["ablaut/analogy.ending", "ablaut/analogy.beginning"], apart := false, laid := [("ablaut/analogy.ending", laid_ablaut_analogy_ending), ("ablaut/analogy.beginning", laid_ablaut_analogy_beginning)], narrowed := true }
def AnalogyMirrorUptoSaid : Prop := analogyMirrorUptoRow.holds Tryd.pinned (OpenSpec.upto analogyMirrorSpec)

/-- 'ablautlaw30.AnalogySums', WHERE WHAT IT READS IS OF BULK AT MOST 1048576: true; the input reads as it did. -/
def analogySumsUptoRow : OpenClaim := { program := "ytpbbnmjkbfbelaadoor", sum := "9ac63c7954b830e2fb1378141c81fe2d42a22679f8faa37ebaf6c6e9a4d73240", func := "ablaut/ablautlaw30.AnalogySums", spec := "analogySums", unfollowed := true, recurses := true, named := ["ablaut/analogy.ending", "ablaut/analogy.beginning"], apart := false, laid := [("ablaut/analogy.ending", laid_ablaut_analogy_ending), ("ablaut/analogy.beginning", laid_ablaut_analogy_beginning)], narrowed := true }
def AnalogySumsUptoSaid : Prop := analogySumsUptoRow.holds Tryd.pinned (OpenSpec.upto analogySumsSpec)

end Rows
end Go.Proofs.YtpbbnmjkbfbelaaDoor
