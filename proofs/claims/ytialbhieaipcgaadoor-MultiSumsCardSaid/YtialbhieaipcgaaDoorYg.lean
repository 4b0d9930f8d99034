/- Chapter 18: equality of columns in the laws; scores of alignments. -/
import Derived.Test.YtialbhieaipcgaaDoorYf
set_option linter.unusedSimpArgs false
set_option linter.unusedVariables false
namespace Go.Sy
open Go Go.RowKit
theorem checkL_all {W : List (List Snd)} (h : ∀ w ∈ W, checkW w = 0) : checkL W = 0 := by
  induction W with
  | nil => rfl
  | cons w W ih =>
    rw [checkL_cons, if_neg (by simp [h w (List.mem_cons_self ..)])]
    exact ih fun x hx => h x (List.mem_cons_of_mem _ hx)
theorem good_words {most sounds most' : Int} {W : List (List Snd)} (h : goodW most sounds W = true) (hm : most ≤ most') : wordsE most' W = 0 := by
  obtain ⟨h1, h2⟩ := goodW_of h
  unfold wordsE
  rw [if_neg (by omega)]
  exact checkL_all fun w hw => (h2 w hw).2
theorem checkA_al {W : List (List Snd)} {cols : List (List Int)} (hw : wordsE 8 W = 0) (hal : isAl W cols = true) : checkA W cols = 0 := by
  unfold checkA; rw [if_neg (by simp [hw]), if_pos hal]
theorem score_al {ws : List Int} {gap : Int} {W : List (List Snd)} {cols : List (List Int)} (hc : checkC ws gap = 0) (hw : wordsE 8 W = 0) (hal : isAl W cols = true) : scoreM ws gap W cols = (costE ws gap W cols, 0) := by
  unfold scoreM; rw [if_neg (by simp [hc]), if_neg (by simp [checkA_al hw hal])]
theorem al_small {W : List (List Snd)} {rs : List IR} (h : isAl W (rs.map (·.l)) = true) (hW : W.length < 2 ^ 40) : ∀ r ∈ rs, r.l.length < 2 ^ 40 := fun r hr => by
  have := (isAl_ent h r.l (List.mem_map_of_mem hr)).1
  omega
end Go.Sy
namespace Go.Proofs.YtialbhieaipcgaaDoor
open Go Go.Sy Go.RowKit
/-- The score of an alignment in memory. -/
theorem c_scoreOk (p pcol pc : Option Addr) (cp ccol cc : Nat) (l : List WD) (rs : List IR) (ws : List Int) (gap : Int) (hok : ∀ x ∈ l, Wok x.w) (hc : checkC ws gap = 0) (hw : wordsE 8 (l.map (·.w)) = 0) (hal : isAl (l.map (·.w)) (rs.map (·.l)) = true) (hr : rs.length ≤ 1048576) (hrc : ∀ r ∈ rs, r.l.length ≤ r.cap) :
    RetP Tryd.prog n_multi_Score [slv p l.length cp, slv pcol rs.length ccol, costs pc ws.length cc gap] (fun R => WordsAt R p l ∧ RowsAt R pcol rs ∧ CostsAt R pc ws ∧ TabOk R) (.tuple #[.int .i64 (costE ws gap (l.map (·.w)) (rs.map (·.l))), .int .i64 0]) := by
  have hl8 := (wordsE_zero hw).1
  rw [List.length_map] at hl8
  have := c_Score p pcol pc cp ccol cc l rs ws gap (by omega) hok hr (fun r hr => by have := al_small hal (by rw [List.length_map]; omega) r hr; omega) hrc
  rw [score_al hc hw hal] at this
  exact this
end Go.Proofs.YtialbhieaipcgaaDoor
