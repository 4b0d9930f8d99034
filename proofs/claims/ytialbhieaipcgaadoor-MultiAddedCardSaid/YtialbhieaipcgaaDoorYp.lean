/- Chapter 18: a refined alignment is not dearer, and cannot be refined. -/
import Derived.Test.YtialbhieaipcgaaDoorYm
import Derived.Test.YtialbhieaipcgaaDoorTcRefined
set_option linter.unusedSimpArgs false
set_option linter.unusedVariables false
namespace Go.Sy
open Go Go.RowKit
section
variable {ws : List Int} {gap : Int} {W : List (List Snd)}
end
theorem withoutE_ok {W : List (List Snd)} {cols : List (List Int)} {k : Nat} (h : checkA W cols = 0) (hk : k < W.length) : withoutE W cols k = (withoutS cols k, 0) := by
  unfold withoutE; rw [if_neg (by simp [h]), if_neg (by omega), Int.toNat_natCast]
theorem addA_ok {ws : List Int} {gap : Int} {W : List (List Snd)} {cols : List (List Int)} {w : List Snd} (hc : checkC ws gap = 0) (h7 : W.length ≤ 7) (hL : checkL W = 0) (hw : checkW w = 0) (hal : isAl W cols = true) : addA ws gap W cols w = (insE (columnE ws gap (W ++ [w])) cols W.length W.length w.length, 0) := by
  have h8 : wordsE 7 W = 0 := by unfold wordsE; rw [if_neg (by omega)]; exact hL
  have h9 : wordsE 8 W = 0 := by unfold wordsE; rw [if_neg (by omega)]; exact hL
  have he : addErr ws gap W cols w = 0 := by
    show (if checkC ws gap ≠ 0 then checkC ws gap else if wordsE 7 W ≠ 0 then wordsE 7 W else if checkW w ≠ 0 then checkW w else if checkA W cols ≠ 0 then checkA W cols else 0) = 0
    rw [if_neg (by simp [hc]), if_neg (by simp [h8]), if_neg (by simp [hw]), checkA_al h9 hal, if_neg (by decide)]
  unfold addA
  rw [he, if_neg (by decide)]
end Go.Sy
namespace Go.Proofs.YtialbhieaipcgaaDoor
open Go Go.Sy Go.RowKit
end Go.Proofs.YtialbhieaipcgaaDoor
