/- Chapter 30: arguments that are models; four words. -/
import Derived.Test.YtpbbnmjkbfbelaaDoorWc
set_option linter.unusedSimpArgs false
set_option linter.unusedVariables false
namespace Go.Proofs.YtpbbnmjkbfbelaaDoor
open Go Go.Sy Go.ChangeShapes Go.WideShapes Go.ChangeAt Go.WideElems Go.RowKit Go.Joins Go.Deep
section
variable {H : Type} {enc : TypeId × Value → H} {P : Program} {w : World} {base : Nat} {spare : Nat → Bool} {held : Bool}
/-- A struct of two slices. -/
theorem reads_two {e : TypeId} {f0 f1 : Field} {Q0 Q1 : SL Snd → Prop} (he : P.underlying e = some (.struct #[f0, f1])) (hC : P.cellsOf e = 2) (o0 : f0.offset = 0) (o1 : f1.offset = 1) (c0 : P.cellsOf f0.type = 1) (c1 : P.cellsOf f1.type = 1)
    (r0 : Reads enc P w base spare held f0.type (fun s : SL Snd => [s.v]) Q0) (r1 : Reads enc P w base spare held f1.type (fun s : SL Snd => [s.v]) Q1) : Reads enc P w base spare held e (fun s : SL Snd × SL Snd => [s.1.v, s.2.v]) (fun s => Q0 s.1 ∧ Q1 s.2) := fun n cs x h hl => by
  obtain ⟨xs, k, _, _, _, hxl, hf⟩ := DataW.trod_struct he h
  rw [hC] at hl
  match cs, hl with
  | [v0, v1], _ =>
    have q0 := hf 0 f0 rfl
    have q1 := hf 1 f1 rfl
    rw [o0, c0] at q0
    rw [o1, c1] at q1
    match xs, hxl with
    | [x0, x1], _ =>
      obtain ⟨A, e0, hA⟩ := r0 _ _ _ q0 (by simp [c0])
      obtain ⟨B, e1, hB⟩ := r1 _ _ _ q1 (by simp [c1])
      simp at e0 e1
      subst e0; subst e1
      exact ⟨(A, B), rfl, hA, hB⟩
/-- Four words. -/
theorem open_four {r : Reach} {b0 : Nat} {t : TypeId} {v : Value} {d : DataW H} {p : List MemPlace} {f0 f1 f2 f3 : Field} {Q0 Q1 Q2 Q3 : SL Snd → Prop} (hs : P.underlying t = some (.struct #[f0, f1, f2, f3])) (hC : P.cellsOf t = 4) (o0 : f0.offset = 0) (o1 : f1.offset = 1) (o2 : f2.offset = 2) (o3 : f3.offset = 3) (c0 : P.cellsOf f0.type = 1) (c1 : P.cellsOf f1.type = 1) (c2 : P.cellsOf f2.type = 1) (c3 : P.cellsOf f3.type = 1)
    (r0 : Reads enc P w base spare held f0.type (fun s : SL Snd => [s.v]) Q0) (r1 : Reads enc P w base spare held f1.type (fun s : SL Snd => [s.v]) Q1) (r2 : Reads enc P w base spare held f2.type (fun s : SL Snd => [s.v]) Q2) (r3 : Reads enc P w base spare held f3.type (fun s : SL Snd => [s.v]) Q3)
    (hv : Value.okWide P w r b0 t v) (h : DataW.Trod enc P w base spare held t v d p) : ∃ A B C D : SL Snd, v = .agg #[A.v, B.v, C.v, D.v] ∧ Q0 A ∧ Q1 B ∧ Q2 C ∧ Q3 D := by
  unfold Value.okWide at hv
  rw [hs] at hv
  obtain ⟨cs, rfl, hsz, _⟩ := hv
  obtain ⟨fuel, hf⟩ := h
  obtain ⟨xs, k, _, _, _, hxl, hf⟩ := DataW.trod_struct hs hf
  rw [hC] at hsz
  obtain ⟨l⟩ := cs
  match l, hsz with
  | [v0, v1, v2, v3], _ =>
    have q0 := hf 0 f0 rfl
    have q1 := hf 1 f1 rfl
    have q2 := hf 2 f2 rfl
    have q3 := hf 3 f3 rfl
    rw [o0, c0] at q0
    rw [o1, c1] at q1
    rw [o2, c2] at q2
    rw [o3, c3] at q3
    match xs, hxl with
    | [x0, x1, x2, x3], _ =>
      obtain ⟨A, e0, hA⟩ := r0 _ _ _ q0 (by simp [Value.cells, c0])
      obtain ⟨B, e1, hB⟩ := r1 _ _ _ q1 (by simp [Value.cells, c1])
      obtain ⟨C, e2, hc⟩ := r2 _ _ _ q2 (by simp [Value.cells, c2])
      obtain ⟨D, e3, hd⟩ := r3 _ _ _ q3 (by simp [Value.cells, c3])
      simp [Value.cells] at e0 e1 e2 e3
      subst e0; subst e1; subst e2; subst e3
      exact ⟨A, B, C, D, rfl, hA, hB, hc, hd⟩
end
/-- A model out of two slices. -/
def mdOf (s : SL Snd × SL Snd) : MD := ⟨⟨s.1.p, s.1.cap, s.1.l⟩, ⟨s.2.p, s.2.cap, s.2.l⟩⟩
theorem mcells_of (l : List (SL Snd × SL Snd)) : l.flatMap (fun s => [s.1.v, s.2.v]) = mcells (l.map mdOf) := by
  unfold mcells
  rw [List.flatMap_map]
  rfl
abbrev MGood (w : World) (s : SL (SL Snd × SL Snd)) : Prop := s.good w (fun x => [x.1.v, x.2.v]) (fun x => x.1.good w scell Sok ∧ x.2.good w scell Sok)
theorem models_at {w : World} {s : SL (SL Snd × SL Snd)} (h : MGood w s) : ModelsAt (Mv.of w) s.p (s.l.map mdOf) := ⟨by rw [← mcells_of]; exact h.1, fun x hx => by
  obtain ⟨y, hy, rfl⟩ := List.mem_map.1 hx
  exact ⟨(h.2.2.2 y hy).1.1, (h.2.2.2 y hy).2.1⟩⟩
theorem models_ok {w : World} {s : SL (SL Snd × SL Snd)} (h : MGood w s) : ModelsOk (s.l.map mdOf) := fun x hx => by
  obtain ⟨y, hy, rfl⟩ := List.mem_map.1 hx
  have := h.2.2.2 y hy
  exact ⟨this.1.2.2.2, this.2.2.2.2, ⟨this.1.2.1.2, this.1.2.1.1⟩, ⟨this.2.2.1.2, this.2.2.1.1⟩⟩
theorem models_len {w : World} {s : SL (SL Snd × SL Snd)} (h : MGood w s) : (s.l.map mdOf).length ≤ maxLen := by rw [List.length_map]; exact h.2.2.1
end Go.Proofs.YtpbbnmjkbfbelaaDoor
