/- Chapter 18: the cheapest alignment of up to three words; plain law. -/
import Derived.Test.YtpbbnmjkbfbelabDoorBp
set_option linter.unusedSimpArgs false
set_option linter.unusedVariables false
namespace Go.Sy
open Go Go.RowKit
abbrev P3 := Nat × Nat × Nat
def bX (s k : Nat) : Bool := s.testBit (2 - k)
structure Best (f : Nat → Option Int) (k : Nat) (x : Int × Nat) : Prop where
  lo : 7 - k < x.2
  hi : x.2 ≤ 7
  pos : 0 ≤ x.1
  is : f x.2 = some x.1
  least : ∀ w s, 7 - k < w → w ≤ 7 → f w = some s → x.1 ≤ s ∧ (x.2 < w → x.1 < s)
def at3 (p : P3) : Nat → Nat
  | 0 => p.1
  | 1 => p.2.1
  | _ => p.2.2
def colX (n : Nat) (p : P3) (s : Nat) : List Int := (List.range n).map fun k => if bX s k = true then (at3 p k : Int) else -1
def cX (ws : List Int) (gap : Int) (W : List (List Snd)) (p : P3) (s : Nat) : Int := columnE ws gap W (colX W.length p s)
def p0 : P3 := (0, 0, 0)
end Go.Sy
