/- 'works' of the laws of chapter 01 answers true; 'Made'. -/
import Derived.Test.YtiocflikonfefaaDoorFf
set_option linter.unusedSimpArgs false
set_option linter.unusedVariables false
namespace Go.Proofs.YtiocflikonfefaaDoor
open Go Go.Sy Go.RowKit
theorem c_p : Ret Tryd.prog n_law01_p [] (snd (2, 5)) := Fn.of S_law01_p mx [] rfl rfl fun _ _ => .alloc fun _ => .ret rfl rfl
theorem c_a : Ret Tryd.prog n_law01_a [] (snd (5, 2)) := Fn.of S_law01_a mx [] rfl rfl fun _ _ => .alloc fun _ => .ret rfl rfl
theorem c_b : Ret Tryd.prog n_law01_b [] (snd (3, 4)) := Fn.of S_law01_b mx [] rfl rfl fun _ _ => .alloc fun _ => .ret rfl rfl
theorem okp : Sok (2, 5) := ⟨by decide, by decide⟩
theorem oka : Sok (5, 2) := ⟨by decide, by decide⟩
theorem okb : Sok (3, 4) := ⟨by decide, by decide⟩
theorem c_works : RetP Tryd.prog n_law01_works [] TabOk (.bool true) := by
  refine Fn.of S_law01_works mx [] rfl rfl fun c hp => .callV c_p (fun _ => trivial) (.callV (c_with (2, 5) 0 1 okp) (fun _ => trivial) (.alloc fun b1 => .callV c_p (fun _ => trivial) (.callV (c_with (2, 5) 24 1 okp) (fun _ => trivial) (.alloc fun b2 =>
    .callV c_p (fun _ => trivial) (.callV c_b (fun _ => trivial) (.callV (c_unify (2, 5) (3, 4) okp okb) (fun _ => trivial) (.alloc fun b3 => .callV c_p (fun _ => trivial) (.callV c_a (fun _ => trivial) (.alloc fun b4 => ?_)))))))))
  refine .callV (c_dist (2, 5) (5, 2) (some ⟨b4, 0, none⟩) 2 [5, 2] 0 okp oka) (fun g => ⟨fun i x hx => ?_, hp.mono g.R⟩) ?_
  · refine ⟨b4, 0, rfl, ?_⟩
    rw [g.at (j := 3) rfl rfl, Nat.zero_add]; exact hx
  refine .callV c_p (fun _ => trivial) (.callV c_a (fun _ => trivial) (.callV (c_take (2, 5) (5, 2) 6 okp oka (by decide)) (fun _ => trivial) (.alloc fun b5 => .callV c_b (fun _ => trivial) (.yes rfl ?_))))
  refine .callV c_p (fun _ => trivial) (.callV c_b (fun _ => trivial) (.callV (c_meet (2, 5) (3, 4) okp okb) (fun _ => trivial) (.yes rfl ?_)))
  refine .callV c_p (fun _ => trivial) (.callV c_a (fun _ => trivial) (.callV (c_diff (2, 5) (5, 2) okp oka) (fun _ => trivial) (.yes rfl ?_)))
  refine .callV c_b (fun _ => trivial) (.callV (c_sat (3, 4) (1, 4) okb ⟨by decide, by decide⟩) (fun _ => trivial) (.yes rfl ?_))
  refine .callV c_p (fun _ => trivial) (.callV c_b (fun _ => trivial) (.callV (c_order (2, 5) (3, 4) okp okb) (fun _ => trivial) (.yes rfl ?_)))
  refine .callV c_p (fun _ => trivial) (.callV (c_get (2, 5) 0 okp) (fun _ => trivial) (.yes rfl ?_))
  exact .callV c_p (fun _ => trivial) (.callV (c_valid (2, 5) okp) (fun _ => trivial) (.ret rfl rfl))
/-- A valid sound of two numbers. -/
def madeS (a b : Nat) : Snd := (a &&& 16777215, nandN (b &&& 16777215) a)
theorem madeS_valid (a b : Nat) (ha : a < 2 ^ 32) : valid (madeS a b) = true := by
  have hb : b &&& 16777215 < 2 ^ 24 := Nat.lt_of_le_of_lt Nat.and_le_right (by decide)
  refine (valid_iff _).2 ⟨fun i hi => ?_, Nat.lt_of_le_of_lt Nat.and_le_right (by decide), nandN_lt hb⟩
  simp only [madeS, Nat.testBit_and, testBit_nandN _ _ _ (show b &&& 16777215 < 2 ^ 32 by omega), Bool.and_eq_true, Bool.not_eq_true'] at hi
  rw [hi.1.1] at hi; simp at hi
theorem c_made (a b : Nat) (ha : a < 2 ^ 32) (hb : b < 2 ^ 32) : Ret Tryd.prog n_law01_Made [.int .u32 (a : Int), .int .u32 (b : Int)] (snd (madeS a b)) :=
  Fn.of S_law01_Made mx [.i a, .i b] rfl rfl fun c _ => .alloc fun _ => .ret rfl (by
    show Value.agg #[.int .u32 (ar .and .u32 (a : Int) 16777215), .int .u32 (ar .andNot .u32 (ar .and .u32 (b : Int) 16777215) (a : Int))] = _
    have e1 : ar .and .u32 (a : Int) 16777215 = ((a &&& 16777215 : Nat) : Int) := ar_and a 16777215 ha (by decide)
    have e2 : ar .and .u32 (b : Int) 16777215 = ((b &&& 16777215 : Nat) : Int) := ar_and b 16777215 hb (by decide)
    rw [e1, e2, ar_andNot _ _ (Nat.lt_of_le_of_lt Nat.and_le_left hb)]
    rfl)
end Go.Proofs.YtiocflikonfefaaDoor
