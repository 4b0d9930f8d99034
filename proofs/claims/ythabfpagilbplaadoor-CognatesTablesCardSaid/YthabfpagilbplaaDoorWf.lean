/- Chapter 19: arguments. -/
import Derived.Test.YthabfpagilbplaaDoorRa
import Derived.Test.YthabfpagilbplaaDoorWd
set_option linter.unusedSimpArgs false
set_option linter.unusedVariables false
namespace Go.Proofs.YthabfpagilbplaaDoor
open Go Go.Sy Go.ChangeShapes Go.WideShapes Go.ChangeAt Go.WideElems Go.RowKit Go.Joins Go.Deep
section
variable {H : Type} {enc : TypeId × Value → H} {P : Program} {w : World} {base : Nat} {spare : Nat → Bool} {held : Bool}
/-- A form. -/
theorem reads_form {e : TypeId} {f0 f1 : Field} {Q1 : SL Snd → Prop} (he : P.underlying e = some (.struct #[f0, f1])) (hC : P.cellsOf e = 2) (o0 : f0.offset = 0) (o1 : f1.offset = 1) (c0 : P.cellsOf f0.type = 1) (c1 : P.cellsOf f1.type = 1) (h0 : P.underlying f0.type = some .bool)
    (r1 : Reads enc P w base spare held f1.type (fun s : SL Snd => [s.v]) Q1) : Reads enc P w base spare held e (fun s : Bool × SL Snd => [.bool s.1, s.2.v]) (fun s => Q1 s.2) := fun n cs x h hl => by
  obtain ⟨xs, k, _, _, _, hxl, hf⟩ := DataW.trod_struct he h
  rw [hC] at hl
  match cs, hl with
  | [v0, v1], _ =>
    have q0 := hf 0 f0 rfl
    have q1 := hf 1 f1 rfl
    rw [o0, c0] at q0
    rw [o1, c1] at q1
    match xs, hxl with
    | [x0, x1], _ =>
      obtain ⟨b, e0, _⟩ := DataW.trod_bool h0 q0
      obtain ⟨B, e1, hB⟩ := r1 _ _ _ q1 (by simp [c1])
      simp at e0 e1
      subst e0; subst e1
      exact ⟨(b, B), rfl, hB⟩
theorem open_frac {r : Reach} {b0 : Nat} {t : TypeId} {v : Value} {d : DataW H} {p : List MemPlace} (f0 f1 : Field) (hs : P.underlying t = some (.struct #[f0, f1])) (hone : oneCellFields P #[f0, f1] = true) (hC : P.cellsOf t = 2)
    (h0 : P.underlying f0.type = some (.int .i64)) (h1 : P.underlying f1.type = some (.int .i64)) (hv : Value.okWide P w r b0 t v) (h : DataW.Trod enc P w base spare held t v d p) : ∃ n m : Int, v = .agg #[.int .i64 n, .int .i64 m] ∧ (Lit.int .i64 n).wf = true ∧ (Lit.int .i64 m).wf = true := by
  obtain ⟨v0, v1, y0, y1, n, rfl, _, _, q0, q1⟩ := open_agg2 hs hone hC hv h
  obtain ⟨a, e0, _, w0⟩ := DataW.trod_int h0 q0
  obtain ⟨b, e1, _, w1⟩ := DataW.trod_int h1 q1
  simp only [List.cons.injEq, and_true] at e0 e1
  subst e0; subst e1
  exact ⟨a, b, rfl, w0, w1⟩
end
theorem wf64 {n : Int} (h : (Lit.int .i64 n).wf = true) : n < 2 ^ 63 := by
  simp only [Lit.wf, Bool.and_eq_true, decide_eq_true_eq] at h
  have h2 := h.2
  simp [IntKind.signed, IntKind.bits] at h2
  omega
theorem len62 {n : Nat} (h : n ≤ maxLen) : n < 2 ^ 63 := by unfold maxLen at h; omega
def fdOf (s : Bool × SL Snd) : FD := ⟨s.1, ⟨s.2.p, s.2.cap, s.2.l⟩⟩
theorem fcells_of (l : List (Bool × SL Snd)) : l.flatMap (fun s => [.bool s.1, s.2.v]) = fcells (l.map fdOf) := by
  unfold fcells
  rw [List.flatMap_map]
  rfl
abbrev FGood (w : World) (s : SL (Bool × SL Snd)) : Prop := s.good w (fun x => [.bool x.1, x.2.v]) fun x => x.2.good w scell Sok
theorem forms_at {w : World} {s : SL (Bool × SL Snd)} (h : FGood w s) : FormsAt (Mv.of w) s.p (s.l.map fdOf) := ⟨by rw [← fcells_of]; exact h.1, fun x hx => by
  obtain ⟨y, hy, rfl⟩ := List.mem_map.1 hx
  exact (h.2.2.2 y hy).1⟩
theorem forms_ok {w : World} {s : SL (Bool × SL Snd)} (h : FGood w s) : ∀ f ∈ s.l.map fdOf, Wok f.w.w ∧ f.w.ok := fun x hx => by
  obtain ⟨y, hy, rfl⟩ := List.mem_map.1 hx
  have := h.2.2.2 y hy
  exact ⟨this.2.2.2, this.2.1.2, this.2.1.1⟩
end Go.Proofs.YthabfpagilbplaaDoor
