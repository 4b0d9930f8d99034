/- 'works' of the laws of chapter 01 answers true; 'Made'. -/
import Derived.Test.YtedfogpnmpmggaaDoorBb
set_option linter.unusedSimpArgs false
set_option linter.unusedVariables false
namespace Go.Proofs.YtedfogpnmpmggaaDoor
open Go Go.Sy Go.RowKit
theorem okp : Sok (2, 5) := ⟨by decide, by decide⟩
theorem oka : Sok (5, 2) := ⟨by decide, by decide⟩
theorem okb : Sok (3, 4) := ⟨by decide, by decide⟩
/-- A valid sound of two numbers. -/
def madeS (a b : Nat) : Snd := (a &&& 16777215, nandN (b &&& 16777215) a)
theorem madeS_valid (a b : Nat) (ha : a < 2 ^ 32) : valid (madeS a b) = true := by
  have hb : b &&& 16777215 < 2 ^ 24 := Nat.lt_of_le_of_lt Nat.and_le_right (by decide)
  refine (valid_iff _).2 ⟨fun i hi => ?_, Nat.lt_of_le_of_lt Nat.and_le_right (by decide), nandN_lt hb⟩
  simp only [madeS, Nat.testBit_and, testBit_nandN _ _ _ (show b &&& 16777215 < 2 ^ 32 by omega), Bool.and_eq_true, Bool.not_eq_true'] at hi
  rw [hi.1.1] at hi; simp at hi
theorem c_made (a b : Nat) (ha : a < 2 ^ 32) (hb : b < 2 ^ 32) : Ret Tryd.prog n_law01_Made [.int .u32 (a : Int), .int .u32 (b : Int)] (snd (madeS a b)) :=
  Fn.of S_law01_Made mx [.i a, .i b] rfl rfl fun c _ => .alloc fun _ => .ret rfl (by
    show Value.agg #[.int .u32 (ar .and .u32 (a : Int) 16777215), .int .u32 (ar .andNot .u32 (ar .and .u32 (b : Int) 16777215) (a : Int))] = _
    have e1 : ar .and .u32 (a : Int) 16777215 = ((a &&& 16777215 : Nat) : Int) := ar_and a 16777215 ha (by decide)
    have e2 : ar .and .u32 (b : Int) 16777215 = ((b &&& 16777215 : Nat) : Int) := ar_and b 16777215 hb (by decide)
    rw [e1, e2, ar_andNot _ _ (Nat.lt_of_le_of_lt Nat.and_le_left hb)]
    rfl)
end Go.Proofs.YtedfogpnmpmggaaDoor
