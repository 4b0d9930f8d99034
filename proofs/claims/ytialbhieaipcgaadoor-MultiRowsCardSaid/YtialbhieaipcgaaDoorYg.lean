/- Chapter 18: equality of columns in the laws; scores of alignments. -/
import Derived.Test.YtialbhieaipcgaaDoorYf
set_option linter.unusedSimpArgs false
set_option linter.unusedVariables false
namespace Go.Sy
open Go Go.RowKit
theorem checkL_all {W : List (List Snd)} (h : ∀ w ∈ W, checkW w = 0) : checkL W = 0 := by
  induction W with
  | nil => rfl
  | cons w W ih =>
    rw [checkL_cons, if_neg (by simp [h w (List.mem_cons_self ..)])]
    exact ih fun x hx => h x (List.mem_cons_of_mem _ hx)
theorem good_words {most sounds most' : Int} {W : List (List Snd)} (h : goodW most sounds W = true) (hm : most ≤ most') : wordsE most' W = 0 := by
  obtain ⟨h1, h2⟩ := goodW_of h
  unfold wordsE
  rw [if_neg (by omega)]
  exact checkL_all fun w hw => (h2 w hw).2
theorem checkA_al {W : List (List Snd)} {cols : List (List Int)} (hw : wordsE 8 W = 0) (hal : isAl W cols = true) : checkA W cols = 0 := by
  unfold checkA; rw [if_neg (by simp [hw]), if_pos hal]
theorem al_small {W : List (List Snd)} {rs : List IR} (h : isAl W (rs.map (·.l)) = true) (hW : W.length < 2 ^ 40) : ∀ r ∈ rs, r.l.length < 2 ^ 40 := fun r hr => by
  have := (isAl_ent h r.l (List.mem_map_of_mem hr)).1
  omega
end Go.Sy
namespace Go.Proofs.YtialbhieaipcgaaDoor
open Go Go.Sy Go.RowKit
end Go.Proofs.YtialbhieaipcgaaDoor
