/- Chapter 18: what is looked at; the laws of scores, of words aligned one after the other, of the cheapest alignment. -/
import Derived.Test.YtialbhieaipcgaaDoorBs
import Derived.Test.YtialbhieaipcgaaDoorTcAligns
import Derived.Test.YtialbhieaipcgaaDoorTcExacts
import Derived.Test.YtialbhieaipcgaaDoorTcScores
set_option linter.unusedSimpArgs false
set_option linter.unusedVariables false
namespace Go.Sy
open Go Go.RowKit
theorem progA_small (ws : List Int) (gap : Int) (W : List (List Snd)) : (progA ws gap W).1.length < 2 ^ 40 ∧ ∀ x ∈ (progA ws gap W).1, x.length < 2 ^ 40 := by
  unfold progA
  by_cases h1 : checkC ws gap ≠ 0
  · rw [if_pos h1]; exact ⟨by show (0 : Nat) < _; decide, fun x hx => by cases hx⟩
  · rw [if_neg h1]
    by_cases h2 : wordsE 8 W ≠ 0
    · rw [if_pos h2]; exact ⟨by show (0 : Nat) < _; decide, fun x hx => by cases hx⟩
    · rw [if_neg h2]
      obtain ⟨h8, hL⟩ := wordsE_zero (Decidable.not_not.1 h2)
      have h3 := progE_len ws gap W W.length
      have h4 := sumL_le (words_len hL) W.length (Nat.le_refl _)
      refine ⟨by show (progE ws gap W W.length).length < _; omega, fun x hx => ?_⟩
      have := (progE_ent (Decidable.not_not.1 h1) W W.length (by omega) x hx).1
      omega
theorem exactA_small (ws : List Int) (gap : Int) (W : List (List Snd)) : (exactA ws gap W).1.length < 2 ^ 40 ∧ ∀ x ∈ (exactA ws gap W).1, x.length < 2 ^ 40 := by
  unfold exactA
  by_cases h1 : checkC ws gap ≠ 0
  · rw [if_pos h1]; exact ⟨by show (0 : Nat) < _; decide, fun x hx => by cases hx⟩
  · rw [if_neg h1]
    by_cases h2 : wordsE 3 W ≠ 0
    · rw [if_pos h2]; exact ⟨by show (0 : Nat) < _; decide, fun x hx => by cases hx⟩
    · rw [if_neg h2]
      obtain ⟨h8, hL⟩ := wordsE_zero (Decidable.not_not.1 h2)
      by_cases h3 : W.any (fun w => decide (6 < w.length)) = true
      · rw [if_pos h3]; exact ⟨by show (0 : Nat) < _; decide, fun x hx => by cases hx⟩
      · rw [if_neg h3]
        have hx := outX_is (Decidable.not_not.1 h1) (W := W) (by omega) (remX (endX W) p0) p0 (p0_le _) (Nat.le_refl _)
        refine ⟨?_, fun x hm => ?_⟩
        · have := outX_len (cX ws gap W) (endX W) (colX W.length) (remX (endX W) p0) p0
          have hr : remX (endX W) p0 ≤ 96 := by
            have hw := words_len hL
            have hg : ∀ k, (W.getD k []).length ≤ 32 := fun k => by
              rcases Nat.lt_or_ge k W.length with h | h
              · rw [getD_at _ _ _ h]; exact hw _ (List.getElem_mem h)
              · rw [List.getD_eq_getElem?_getD, List.getElem?_eq_none h]; exact Nat.zero_le _
            have a := hg 0
            have b := hg 1
            have c := hg 2
            unfold remX endX p0
            dsimp only
            omega
          show (outX (cX ws gap W) (endX W) (colX W.length) (remX (endX W) p0) p0).length < _
          omega
        · have := (hx.1.1 x hm).1
          omega
end Go.Sy
namespace Go.Proofs.YtialbhieaipcgaaDoor
open Go Go.Sy Go.RowKit
end Go.Proofs.YtialbhieaipcgaaDoor
