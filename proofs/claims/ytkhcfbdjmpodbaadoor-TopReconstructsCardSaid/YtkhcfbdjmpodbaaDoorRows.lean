/-
  NARROWER THAN 'FOR EVERY INPUT', by the rows' own cells (each row's printed sentence says how): TopReconstructs: laid.
  DERIVED. THE GIVEN ROWS OF THIS SEAT. 1 by the template 'for every input the law returns true; each argument reads behind the call as it read before'; 0 by the template 'total and deterministic' (their statements: YtkhcfbdjmpodbaaDoorTotals.lean).
  GIVEN WITH THE SEED: the statements are not yours to turn. If you find one false, say at which input.
  Laid BY PROGRAM, IN A SANDBOX (cutbox-rows.mjs): the forced cells as the released guide's own fill.sh prints them over the translation c753c2c04509874f… (all of the seat's roots in one cut). By AI agents, Wed Nov 11 2026. No macro, syntax, notation, axiom, sorry.
-/
import Derived.Test.YtkhcfbdjmpodbaaDoorChecked
import GoSem.Claim
import GoSem.ClaimJoined
import GoSem.ClaimMapViews
import Derived.JoinedTies
import Derived.KernelRfl
namespace Go.Proofs.YtkhcfbdjmpodbaaDoor
/- THE CELL 'sum', in the pinned program and in every row, IS THE sha256 OF THE DUMP (.gsa) THAT YtkhcfbdjmpodbaaDoorProg.lean LOADS. Nothing in Lean hashes anything: it is a label: what it is worth is what the hold of that sum in a sandbox is worth. -/
noncomputable def Tryd.pinned : Pinned := { name := "ytkhcfbdjmpodbaadoor", sum := "c753c2c04509874fc67864e9c5536191740328730f05c613293e511946c702d7", checked := Tryd.checked }
namespace Rows
def none {H : Type} : Left H := { results := [], args := [] }

/- WHAT THE LISTED PACKAGE-LEVEL VARIABLES READ AS WHEN THE CALL BEGINS. Each datum BY PROGRAM (the guide's laid-datum.mjs) off the statement by which the dump's own 'gosem.cut.vars' lays the variable. In a bare row this is a premise. The card (YtkhcfbdjmpodbaaDoorCards.lean) ties it to the program's text. -/
def laid_math_bits_deBruijn32tab {H : Type} : DataW H := .agg [.lit (.int .u8 0), .lit (.int .u8 1), .lit (.int .u8 28), .lit (.int .u8 2), .lit (.int .u8 29), .lit (.int .u8 14), .lit (.int .u8 24), .lit (.int .u8 3), .lit (.int .u8 30), .lit (.int .u8 22), .lit (.int .u8 20), .lit (.int .u8 15), .lit (.int .u8 25), .lit (.int .u8 17), .lit (.int .u8 4), .lit (.int .u8 8), .lit (.int .u8 31), .lit (.int .u8 27), .lit (.int .u8 13), .lit (.int .u8 23), .lit (.int .u8 21), .lit (.int .u8 19), .lit (.int .u8 16), .lit (.int .u8 7), .lit (.int .u8 26), .lit (.int .u8 12), .lit (.int .u8 18), .lit (.int .u8 6), .lit (.int .u8 11), .lit (.int .u8 5), .lit (.int .u8 10), .lit (.int .u8 9)]
def laid_ablaut_multi_steps {H : Type} : DataW H := .iface "func table" (.agg [.agg [.lit (.int .i64 1), .lit (.int .i64 1), .iface "func" (.lit (.string [97, 98, 108, 97, 117, 116, 47, 109, 117, 108, 116, 105, 46, 115, 116, 101, 112, 115, 36, 49]))], .agg [.lit (.int .i64 1), .lit (.int .i64 0), .iface "func" (.lit (.string [97, 98, 108, 97, 117, 116, 47, 109, 117, 108, 116, 105, 46, 115, 116, 101, 112, 115, 36, 50]))], .agg [.lit (.int .i64 0), .lit (.int .i64 1), .iface "func" (.lit (.string [97, 98, 108, 97, 117, 116, 47, 109, 117, 108, 116, 105, 46, 115, 116, 101, 112, 115, 36, 51]))]])

/-- 'ablauttop.TopReconstructs': WHATEVER THE INPUT: true; the input reads as it did. -/
def topReconstructsSpec : ChangeSpec := { name := "topReconstructs", fn := fun _ => fun
  | [d1, d2, d3] => { results := [.lit (.bool true)], args := [d1, d2, d3] }
  | _ => none }
def topReconstructsRow : OpenClaim := { program := "ytkhcfbdjmpodbaadoor", sum := "c753c2c04509874fc67864e9c5536191740328730f05c613293e511946c702d7", func := "ablaut/ablauttop.TopReconstructs", spec := "topReconstructs", unfollowed := true, recurses := true, named := ["math/bits.deBruijn32tab", "ablaut/multi.steps"], plainKeys := false, apart := false, laid := [("math/bits.deBruijn32tab", laid_math_bits_deBruijn32tab), ("ablaut/multi.steps", laid_ablaut_multi_steps)] }
def TopReconstructsSaid : Prop := topReconstructsRow.holds Tryd.pinned (OpenSpec.ofChange topReconstructsSpec)

/-- ITS FALSE NEIGHBOUR: 'it returns false'. Refute it at one input. -/
def topReconstructsWrong : ChangeSpec := { name := "topReconstructs", fn := fun _ => fun
  | [d1, d2, d3] => { results := [.lit (.bool false)], args := [d1, d2, d3] }
  | _ => none }
def TopReconstructsWrongFalsely : Prop := topReconstructsRow.holds Tryd.pinned (OpenSpec.ofChange topReconstructsWrong)

/- THE SECOND FORM. 'bulk': how many values and letters a reading holds, each counted each time it is reached (what is shared counts as often as it is met; a slice's spare places count too). A statement '..UptoSaid' is the law's where the arguments, and the package variables that the reading takes, are together of bulk at most 1048576: NARROWER than '..Said'. Prove '..Said' where nothing that the law and all that it calls make is longer than what came in: it says more and counts as full. Else prove '..UptoSaid'. A law counts once. -/
mutual
def uptoBulk {H : Type} : DataW H → Nat
  | .lit (.string bytes) => bytes.length + 1
  | .lit _ => 1
  | .nil => 1
  | .ptr d => uptoBulk d + 1
  | .slice elems spare => uptoBulkAll elems + uptoBulkAll spare + 1
  | .agg parts => uptoBulkAll parts + 1
  | .iface _ d => uptoBulk d + 1
  | .map entries => uptoBulkEntries entries + 1
  | .held _ => 1
def uptoBulkAll {H : Type} : List (DataW H) → Nat
  | [] => 0
  | d :: r => uptoBulk d + uptoBulkAll r
def uptoBulkEntries {H : Type} : List (Lit × DataW H) → Nat
  | [] => 0
  | x :: r => uptoBulkEntry x + uptoBulkEntries r
def uptoBulkEntry {H : Type} : Lit × DataW H → Nat
  | (.string bytes, d) => bytes.length + uptoBulk d + 1
  | (_, d) => uptoBulk d + 1
 end
def uptoSmall : (H : Type) → List (DataW H) → Bool := fun _ ds => decide (uptoBulkAll ds ≤ 1048576)
def OpenSpec.upto (s : _root_.Go.ChangeSpec) : _root_.Go.OpenSpec := { _root_.Go.OpenSpec.ofChange s with cond := some uptoSmall }

/-- 'ablauttop.TopReconstructs', WHERE WHAT IT READS IS OF BULK AT MOST 1048576: true; the input reads as it did. -/
def topReconstructsUptoRow : OpenClaim := { program := "ytkhcfbdjmpodbaadoor", sum := "c753c2c04509874fc67864e9c5536191740328730f05c613293e511946c702d7", func := "ablaut/ablauttop.TopReconstructs", spec := "topReconstructs", unfollowed := true, recurses := true, named := ["math/bits.deBruijn32tab", "ablaut/multi.steps"], plainKeys := false, apart := false, laid := [("math/bits.deBruijn32tab", laid_math_bits_deBruijn32tab), ("ablaut/multi.steps", laid_ablaut_multi_steps)], narrowed := true }
def TopReconstructsUptoSaid : Prop := topReconstructsUptoRow.holds Tryd.pinned (OpenSpec.upto topReconstructsSpec)

end Rows
end Go.Proofs.YtkhcfbdjmpodbaaDoor
