/- The smallest cost from two places on, by the three next places. -/
import Derived.Test.YtedfogpnmpmggaaDoorPm
set_option linter.unusedSimpArgs false
set_option linter.unusedVariables false
namespace Go.Sy
section
variable {d : Snd → Snd → Int} {g : Int} {a b : List Snd} {i j : Nat}
theorem RA_cc (hi : i < a.length) (hj : j < b.length) : RA d g a b i j ≤ d a[i] b[j] + RA d g a b (i + 1) (j + 1) ∧ RA d g a b i j ≤ g + RA d g a b (i + 1) j ∧ RA d g a b i j ≤ g + RA d g a b i (j + 1) ∧ (RA d g a b i j = d a[i] b[j] + RA d g a b (i + 1) (j + 1) ∨ RA d g a b i j = g + RA d g a b (i + 1) j ∨ RA d g a b i j = g + RA d g a b i (j + 1)) := by
  have hc := rst_cc d g a[i] (a.drop (i + 1)) b[j] (b.drop (j + 1))
  refine ⟨RA_both hi hj, RA_one hi, RA_two hj, ?_⟩
  simp only [RA, List.drop_eq_getElem_cons hi, List.drop_eq_getElem_cons hj]
  omega
theorem RA_cn (hi : i < a.length) (hj : b.length ≤ j) : RA d g a b i j = g + RA d g a b (i + 1) j := by
  simp only [RA, List.drop_eq_getElem_cons hi, List.drop_of_length_le hj, rst_cn]
theorem RA_nc (hi : a.length ≤ i) (hj : j < b.length) : RA d g a b i j = g + RA d g a b i (j + 1) := by
  simp only [RA, List.drop_eq_getElem_cons hj, List.drop_of_length_le hi, rst_nc]
theorem RA_nonneg (hg : 0 ≤ g) (hd : ∀ x y, 0 ≤ d x y) : 0 ≤ RA d g a b i j := rst_pos hg hd _ _
end
end Go.Sy
