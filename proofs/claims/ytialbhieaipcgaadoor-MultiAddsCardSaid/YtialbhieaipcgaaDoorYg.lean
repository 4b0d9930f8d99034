/- Chapter 18: equality of columns in the laws; scores of alignments. -/
import Derived.Test.YtialbhieaipcgaaDoorYf
set_option linter.unusedSimpArgs false
set_option linter.unusedVariables false
namespace Go.Sy
open Go Go.RowKit
theorem checkL_all {W : List (List Snd)} (h : ∀ w ∈ W, checkW w = 0) : checkL W = 0 := by
  induction W with
  | nil => rfl
  | cons w W ih =>
    rw [checkL_cons, if_neg (by simp [h w (List.mem_cons_self ..)])]
    exact ih fun x hx => h x (List.mem_cons_of_mem _ hx)
theorem checkA_al {W : List (List Snd)} {cols : List (List Int)} (hw : wordsE 8 W = 0) (hal : isAl W cols = true) : checkA W cols = 0 := by
  unfold checkA; rw [if_neg (by simp [hw]), if_pos hal]
end Go.Sy
namespace Go.Proofs.YtialbhieaipcgaaDoor
open Go Go.Sy Go.RowKit
end Go.Proofs.YtialbhieaipcgaaDoor
