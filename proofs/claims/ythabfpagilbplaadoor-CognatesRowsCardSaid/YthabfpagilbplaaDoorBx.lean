/- Chapter 19: arguments. -/
import Derived.Test.YthabfpagilbplaaDoorBi
import Derived.Test.YthabfpagilbplaaDoorBw
import Derived.Test.YthabfpagilbplaaDoorBl
set_option linter.unusedSimpArgs false
set_option linter.unusedVariables false
/- Chapter 19: arguments. -/
namespace Go.Proofs.YthabfpagilbplaaDoor
open Go Go.Sy Go.ChangeShapes Go.WideShapes Go.ChangeAt Go.WideElems Go.RowKit Go.Joins Go.Deep
section
variable {H : Type} {enc : TypeId × Value → H} {P : Program} {w : World} {base : Nat} {spare : Nat → Bool} {held : Bool}
end
theorem len62 {n : Nat} (h : n ≤ maxLen) : n < 2 ^ 63 := by unfold maxLen at h; omega
end Go.Proofs.YthabfpagilbplaaDoor
/- Chapter 19: rows of numbers as arguments. -/
namespace Go.Proofs.YthabfpagilbplaaDoor
open Go Go.Sy Go.ChangeShapes Go.WideShapes Go.ChangeAt Go.WideElems Go.RowKit Go.Joins Go.Deep
def irOf (s : SL Int) : IR := ⟨s.p, s.cap, s.l⟩
theorem flat1 {α β : Type} (f : α → β) (l : List α) : l.flatMap (fun x => [f x]) = l.map f := by
  induction l with
  | nil => rfl
  | cons x l ih => simp only [List.flatMap_cons, List.map_cons, ih]; rfl
end Go.Proofs.YthabfpagilbplaaDoor
/- Chapter 19: small numbers as arguments. -/
namespace Go.Proofs.YthabfpagilbplaaDoor
open Go Go.Sy Go.ChangeShapes Go.WideShapes Go.ChangeAt Go.WideElems Go.RowKit Go.Joins Go.Deep
theorem wf8 {n : Int} (h : (Lit.int .u8 n).wf = true) : 0 ≤ n ∧ n < 256 := by
  simp only [Lit.wf, Bool.and_eq_true, decide_eq_true_eq] at h
  have h1 : (0 : Int) ≤ n := h.1
  have h2 : n ≤ 255 := h.2
  omega
end Go.Proofs.YthabfpagilbplaaDoor
/- Chapter 19: rows of small numbers, and four small numbers, as arguments. -/
namespace Go.Proofs.YthabfpagilbplaaDoor
open Go Go.Sy Go.ChangeShapes Go.WideShapes Go.ChangeAt Go.WideElems Go.RowKit Go.Joins Go.Deep
section
variable {H : Type} {enc : TypeId × Value → H} {P : Program} {w : World} {base : Nat} {spare : Nat → Bool} {held : Bool}
theorem array4 {cs : Array Value} (h : cs.size = 4) : ∃ a b c d, cs = #[a, b, c, d] := by
  obtain ⟨l⟩ := cs
  match l, h with
  | [a, b, c, d], _ => exact ⟨a, b, c, d, rfl⟩
theorem open_fourK {r : Reach} {b0 : Nat} {t e : TypeId} {k : IntKind} {v : Value} {d : DataW H} {p : List MemPlace} (hs : P.underlying t = some (.array 4 e)) (he : P.underlying e = some (.int k)) (hC : P.cellsOf t = 4) (hE : P.cellsOf e = 1)
    (hv : Value.okWide P w r b0 t v) (h : DataW.Trod enc P w base spare held t v d p) : ∃ a b c d : Int, v = .agg #[.int k a, .int k b, .int k c, .int k d] ∧ (Lit.int k a).wf = true ∧ (Lit.int k b).wf = true ∧ (Lit.int k c).wf = true ∧ (Lit.int k d).wf = true := by
  unfold Value.okWide at hv
  rw [hs] at hv
  obtain ⟨cs, rfl, hsz, _⟩ := hv
  obtain ⟨c0, c1, c2, c3, rfl⟩ := array4 (hsz.trans hC)
  obtain ⟨fuel, hf⟩ := h
  obtain ⟨xs, m, _, _, _, hn, hel⟩ := DataW.trod_array hs hf
  rw [hE] at hel
  have q0 := hel 0 (by decide)
  have q1 := hel 1 (by decide)
  have q2 := hel 2 (by decide)
  have q3 := hel 3 (by decide)
  match xs, hn with
  | [x0, x1, x2, x3], _ =>
    obtain ⟨a, e0, _, w0⟩ := DataW.trod_int he q0
    obtain ⟨b, e1, _, w1⟩ := DataW.trod_int he q1
    obtain ⟨c, e2, _, w2⟩ := DataW.trod_int he q2
    obtain ⟨d, e3, _, w3⟩ := DataW.trod_int he q3
    simp [Value.cells] at e0 e1 e2 e3
    subst e0; subst e1; subst e2; subst e3
    exact ⟨a, b, c, d, rfl, w0, w1, w2, w3⟩
end
abbrev RGood8 (w : World) (s : SL (SL Int)) : Prop := s.good w (fun x => [x.v]) fun x => x.good w (fun x : Int => [.int .u8 x]) fun x => (Lit.int .u8 x).wf = true
theorem rows8_at {w : World} {s : SL (SL Int)} (h : RGood8 w s) : Rows8At (Mv.of w) s.p (s.l.map irOf) := by
  refine ⟨?_, fun r hr => ?_⟩
  · have : s.l.flatMap (fun x => [x.v]) = (s.l.map irOf).map IR.v := by
      rw [flat1, List.map_map]
      apply List.map_congr_left
      intro x _
      simp [IR.v, irOf, SL.v]
    rw [← this]; exact h.1
  · obtain ⟨y, hy, rfl⟩ := List.mem_map.1 hr
    exact cells_map1 (h.2.2.2 y hy).1
theorem rows8_ok {w : World} {s : SL (SL Int)} (h : RGood8 w s) : ∀ r ∈ s.l.map irOf, Rok8 r := fun r hr => by
  obtain ⟨y, hy, rfl⟩ := List.mem_map.1 hr
  have := h.2.2.2 y hy
  exact ⟨this.2.1.2, len62 this.2.2.1, fun x hx => wf8 (this.2.2.2 x hx)⟩
end Go.Proofs.YthabfpagilbplaaDoor
