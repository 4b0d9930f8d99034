/- Chapter 19: rows of rows of small numbers as arguments. -/
import Derived.Test.YthabfpagilbplaaDoorRt
import Derived.Test.YthabfpagilbplaaDoorBx
set_option linter.unusedSimpArgs false
set_option linter.unusedVariables false
namespace Go.Proofs.YthabfpagilbplaaDoor
open Go Go.Sy Go.ChangeShapes Go.WideShapes Go.ChangeAt Go.WideElems Go.RowKit Go.Joins Go.Deep
def rwOf (s : SL (SL Int)) : RW := ⟨s.p, s.cap, s.l.map irOf⟩
abbrev RGood88 (w : World) (s : SL (SL (SL Int))) : Prop := s.good w (fun x => [x.v]) fun x => RGood8 w x
theorem rows88_at {w : World} {s : SL (SL (SL Int))} (h : RGood88 w s) : Rows88At (Mv.of w) s.p (s.l.map rwOf) := by
  refine ⟨?_, fun r hr => ?_⟩
  · have : s.l.flatMap (fun x => [x.v]) = (s.l.map rwOf).map RW.v := by
      rw [flat1, List.map_map]
      apply List.map_congr_left
      intro x _
      simp [RW.v, rwOf, SL.v]
    rw [← this]; exact h.1
  · obtain ⟨y, hy, rfl⟩ := List.mem_map.1 hr
    exact rows8_at (h.2.2.2 y hy)
theorem rows88_ok {w : World} {s : SL (SL (SL Int))} (h : RGood88 w s) : ∀ r ∈ s.l.map rwOf, Wok8 r := fun r hr => by
  obtain ⟨y, hy, rfl⟩ := List.mem_map.1 hr
  have := h.2.2.2 y hy
  refine ⟨?_, ?_, rows8_ok this⟩
  · show (y.l.map irOf).length ≤ _
    rw [List.length_map]; exact this.2.1.2
  · show (y.l.map irOf).length < _
    rw [List.length_map]; exact len62 this.2.2.1
end Go.Proofs.YthabfpagilbplaaDoor
