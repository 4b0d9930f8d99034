/- Chapter 19: rows of numbers as arguments. -/
import Derived.Test.YthabfpagilbplaaDoorRb
import Derived.Test.YthabfpagilbplaaDoorWf
set_option linter.unusedSimpArgs false
set_option linter.unusedVariables false
namespace Go.Proofs.YthabfpagilbplaaDoor
open Go Go.Sy Go.ChangeShapes Go.WideShapes Go.ChangeAt Go.WideElems Go.RowKit Go.Joins Go.Deep
def irOf (s : SL Int) : IR := ⟨s.p, s.cap, s.l⟩
theorem flat1 {α β : Type} (f : α → β) (l : List α) : l.flatMap (fun x => [f x]) = l.map f := by
  induction l with
  | nil => rfl
  | cons x l ih => simp only [List.flatMap_cons, List.map_cons, ih]; rfl
abbrev RGood (w : World) (s : SL (SL Int)) : Prop := s.good w (fun x => [x.v]) fun x => x.good w (fun x : Int => [.int .i64 x]) fun x => (Lit.int .i64 x).wf = true
theorem rows_at {w : World} {s : SL (SL Int)} (h : RGood w s) : RowsAt (Mv.of w) s.p (s.l.map irOf) := by
  refine ⟨?_, fun r hr => ?_⟩
  · have : s.l.flatMap (fun x => [x.v]) = (s.l.map irOf).map IR.v := by
      rw [flat1, List.map_map]
      apply List.map_congr_left
      intro x _
      simp [IR.v, irOf, SL.v]
    rw [← this]; exact h.1
  · obtain ⟨y, hy, rfl⟩ := List.mem_map.1 hr
    exact cellsI (h.2.2.2 y hy).1
theorem rows_len {w : World} {s : SL (SL Int)} (h : RGood w s) : ∀ r ∈ s.l.map irOf, r.l.length < 2 ^ 63 := fun r hr => by
  obtain ⟨y, hy, rfl⟩ := List.mem_map.1 hr
  exact len62 (h.2.2.2 y hy).2.2.1
end Go.Proofs.YthabfpagilbplaaDoor
