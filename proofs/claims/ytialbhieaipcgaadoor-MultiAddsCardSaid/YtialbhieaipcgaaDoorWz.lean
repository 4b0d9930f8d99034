/- Chapter 18: an alignment, a word and costs, as an argument. -/
import Derived.Test.YtialbhieaipcgaaDoorBt
set_option linter.unusedSimpArgs false
set_option linter.unusedVariables false
namespace Go.Proofs.YtialbhieaipcgaaDoor
open Go Go.Sy Go.ChangeShapes Go.WideShapes Go.ChangeAt Go.WideElems Go.RowKit Go.Joins Go.Deep
section
variable {H : Type} {enc : TypeId × Value → H} {P : Program} {w : World} {base : Nat} {spare : Nat → Bool} {held : Bool}
structure CS where
  p : Option Addr
  cap : Nat
  l : List Int
  gap : Int
theorem reads_costs {t e : TypeId} {f0 f1 : Field} (he : P.underlying t = some (.struct #[f0, f1])) (hC : P.cellsOf t = 2) (o0 : f0.offset = 0) (o1 : f1.offset = 1) (c0 : P.cellsOf f0.type = 1) (c1 : P.cellsOf f1.type = 1) (h0 : P.underlying f0.type = some (.slice e)) (hee : P.underlying e = some (.int .i64)) (hc : P.cellsOf e = 1) (h1 : P.underlying f1.type = some (.int .i64)) :
    Reads enc P w base spare held t (fun c : CS => [slv c.p c.l.length c.cap, .int .i64 c.gap]) (fun c => CostsAt (Mv.of w) c.p c.l ∧ (c.p = none → c.cap = 0)) := fun n cs x h hl => by
  obtain ⟨xs, k, _, _, _, hxl, hf⟩ := DataW.trod_struct he h
  rw [hC] at hl
  match cs, hl with
  | [v0, v1], _ =>
    have q0 := hf 0 f0 rfl
    have q1 := hf 1 f1 rfl
    rw [o0, c0] at q0
    rw [o1, c1] at q1
    match xs, hxl with
    | [x0, x1], _ =>
      obtain ⟨q, cap, ws, e0, hcells, hn, hw⟩ := open_sl h0 hee hc q0
      obtain ⟨b, e1, _, w1⟩ := DataW.trod_int h1 q1
      simp at e0 e1
      subst e0; subst e1
      exact ⟨⟨q, cap, ws, b⟩, rfl, hcells, hn⟩
theorem open_add {r : Reach} {b0 : Nat} {t : TypeId} {v : Value} {d : DataW H} {p : List MemPlace} {f0 f1 f2 f3 : Field} {Q0 : SL (SL Snd) → Prop} {Q1 : SL (SL Int) → Prop} {Q2 : SL Snd → Prop} {Q3 : CS → Prop} (hs : P.underlying t = some (.struct #[f0, f1, f2, f3])) (hC : P.cellsOf t = 5) (o0 : f0.offset = 0) (o1 : f1.offset = 1) (o2 : f2.offset = 2) (o3 : f3.offset = 3) (c0 : P.cellsOf f0.type = 1) (c1 : P.cellsOf f1.type = 1) (c2 : P.cellsOf f2.type = 1) (c3 : P.cellsOf f3.type = 2)
    (r0 : Reads enc P w base spare held f0.type (fun s : SL (SL Snd) => [s.v]) Q0) (r1 : Reads enc P w base spare held f1.type (fun s : SL (SL Int) => [s.v]) Q1) (r2 : Reads enc P w base spare held f2.type (fun s : SL Snd => [s.v]) Q2) (r3 : Reads enc P w base spare held f3.type (fun c : CS => [slv c.p c.l.length c.cap, .int .i64 c.gap]) Q3)
    (hv : Value.okWide P w r b0 t v) (h : DataW.Trod enc P w base spare held t v d p) : ∃ (A : SL (SL Snd)) (B : SL (SL Int)) (C : SL Snd) (c : CS), v = .agg #[A.v, B.v, C.v, slv c.p c.l.length c.cap, .int .i64 c.gap] ∧ Q0 A ∧ Q1 B ∧ Q2 C ∧ Q3 c := by
  unfold Value.okWide at hv
  rw [hs] at hv
  obtain ⟨cs, rfl, hsz, _⟩ := hv
  obtain ⟨fuel, hf⟩ := h
  obtain ⟨xs, k, _, _, _, hxl, hf⟩ := DataW.trod_struct hs hf
  rw [hC] at hsz
  obtain ⟨l⟩ := cs
  match l, hsz with
  | [v0, v1, v2, v3, v4], _ =>
    have q0 := hf 0 f0 rfl
    have q1 := hf 1 f1 rfl
    have q2 := hf 2 f2 rfl
    have q3 := hf 3 f3 rfl
    rw [o0, c0] at q0
    rw [o1, c1] at q1
    rw [o2, c2] at q2
    rw [o3, c3] at q3
    match xs, hxl with
    | [x0, x1, x2, x3], _ =>
      obtain ⟨A, e0, hA⟩ := r0 _ _ _ q0 (by simp [Value.cells, c0])
      obtain ⟨B, e1, hB⟩ := r1 _ _ _ q1 (by simp [Value.cells, c1])
      obtain ⟨C, e2, hD⟩ := r2 _ _ _ q2 (by simp [Value.cells, c2])
      obtain ⟨c, e3, hc⟩ := r3 _ _ _ q3 (by simp [Value.cells, c3])
      simp [Value.cells] at e0 e1 e2 e3
      obtain ⟨e3, e4⟩ := e3
      subst e0; subst e1; subst e2; subst e3; subst e4
      exact ⟨A, B, C, c, rfl, hA, hB, hD, hc⟩
end
end Go.Proofs.YtialbhieaipcgaaDoor
