/- A pair of words with costs, as an argument. -/
import Derived.Test.YtedfogpnmpmggaaDoorWc
set_option linter.unusedSimpArgs false
set_option linter.unusedVariables false
namespace Go.Proofs.YtedfogpnmpmggaaDoor
open Go Go.Sy Go.ChangeShapes Go.WideShapes Go.ChangeAt Go.WideElems Go.RowKit Go.Joins Go.Deep
section
variable {H : Type} {enc : TypeId × Value → H} {P : Program} {w : World} {base : Nat} {spare : Nat → Bool} {held : Bool}
/-- Costs. -/
structure CS where
  p : Option Addr
  cap : Nat
  l : List Int
  gap : Int
theorem reads_costs {t e : TypeId} {f0 f1 : Field} (he : P.underlying t = some (.struct #[f0, f1])) (hC : P.cellsOf t = 2) (o0 : f0.offset = 0) (o1 : f1.offset = 1) (c0 : P.cellsOf f0.type = 1) (c1 : P.cellsOf f1.type = 1) (h0 : P.underlying f0.type = some (.slice e)) (hee : P.underlying e = some (.int .i64)) (hc : P.cellsOf e = 1) (h1 : P.underlying f1.type = some (.int .i64)) :
    Reads enc P w base spare held t (fun c : CS => [slv c.p c.l.length c.cap, .int .i64 c.gap]) (fun c => CostsAt (Mv.of w) c.p c.l ∧ (c.p = none → c.cap = 0)) := fun n cs x h hl => by
  obtain ⟨xs, k, _, _, _, hxl, hf⟩ := DataW.trod_struct he h
  rw [hC] at hl
  match cs, hl with
  | [v0, v1], _ =>
    have q0 := hf 0 f0 rfl
    have q1 := hf 1 f1 rfl
    rw [o0, c0] at q0
    rw [o1, c1] at q1
    match xs, hxl with
    | [x0, x1], _ =>
      obtain ⟨q, cap, ws, e0, hcells, hn, hw⟩ := open_sl h0 hee hc q0
      obtain ⟨b, e1, _, w1⟩ := DataW.trod_int h1 q1
      simp at e0 e1
      subst e0; subst e1
      exact ⟨⟨q, cap, ws, b⟩, rfl, hcells, hn⟩
theorem open_two {r : Reach} {b0 : Nat} {t : TypeId} {v : Value} {d : DataW H} {p : List MemPlace} {f0 f1 f2 : Field} {Q0 Q1 : SL Snd → Prop} {Q2 : CS → Prop} (hs : P.underlying t = some (.struct #[f0, f1, f2])) (hC : P.cellsOf t = 4) (o0 : f0.offset = 0) (o1 : f1.offset = 1) (o2 : f2.offset = 2) (c0 : P.cellsOf f0.type = 1) (c1 : P.cellsOf f1.type = 1) (c2 : P.cellsOf f2.type = 2)
    (r0 : Reads enc P w base spare held f0.type (fun s : SL Snd => [s.v]) Q0) (r1 : Reads enc P w base spare held f1.type (fun s : SL Snd => [s.v]) Q1) (r2 : Reads enc P w base spare held f2.type (fun c : CS => [slv c.p c.l.length c.cap, .int .i64 c.gap]) Q2)
    (hv : Value.okWide P w r b0 t v) (h : DataW.Trod enc P w base spare held t v d p) : ∃ (A B : SL Snd) (c : CS), v = .agg #[A.v, B.v, slv c.p c.l.length c.cap, .int .i64 c.gap] ∧ Q0 A ∧ Q1 B ∧ Q2 c := by
  unfold Value.okWide at hv
  rw [hs] at hv
  obtain ⟨cs, rfl, hsz, _⟩ := hv
  obtain ⟨fuel, hf⟩ := h
  obtain ⟨xs, k, _, _, _, hxl, hf⟩ := DataW.trod_struct hs hf
  rw [hC] at hsz
  obtain ⟨l⟩ := cs
  match l, hsz with
  | [v0, v1, v2, v3], _ =>
    have q0 := hf 0 f0 rfl
    have q1 := hf 1 f1 rfl
    have q2 := hf 2 f2 rfl
    rw [o0, c0] at q0
    rw [o1, c1] at q1
    rw [o2, c2] at q2
    match xs, hxl with
    | [x0, x1, x2], _ =>
      obtain ⟨A, e0, hA⟩ := r0 _ _ _ q0 (by simp [Value.cells, c0])
      obtain ⟨B, e1, hB⟩ := r1 _ _ _ q1 (by simp [Value.cells, c1])
      obtain ⟨c, e2, hc⟩ := r2 _ _ _ q2 (by simp [Value.cells, c2])
      simp [Value.cells] at e0 e1 e2
      obtain ⟨e2, e3⟩ := e2
      subst e0; subst e1; subst e2; subst e3
      exact ⟨A, B, c, rfl, hA, hB, hc⟩
theorem open_pairK {r : Reach} {b0 : Nat} {t e : TypeId} {k : IntKind} {v : Value} {d : DataW H} {p : List MemPlace} (hs : P.underlying t = some (.array 2 e)) (he : P.underlying e = some (.int k)) (hC : P.cellsOf t = 2) (hE : P.cellsOf e = 1)
    (hv : Value.okWide P w r b0 t v) (h : DataW.Trod enc P w base spare held t v d p) : ∃ s : Int × Int, v = .agg #[.int k s.1, .int k s.2] ∧ (Lit.int k s.1).wf = true ∧ (Lit.int k s.2).wf = true := by
  unfold Value.okWide at hv
  rw [hs] at hv
  obtain ⟨cs, rfl, hsz, _⟩ := hv
  obtain ⟨c0, c1, rfl⟩ := array2 (hsz.trans hC)
  obtain ⟨fuel, hf⟩ := h
  obtain ⟨xs, m, _, _, _, hn, hel⟩ := DataW.trod_array hs hf
  rw [hE] at hel
  have q0 := hel 0 (by decide)
  have q1 := hel 1 (by decide)
  match xs, hn with
  | [x0, x1], _ =>
    obtain ⟨a, e0, _, w0⟩ := DataW.trod_int he q0
    obtain ⟨b, e1, _, w1⟩ := DataW.trod_int he q1
    simp [Value.cells] at e0 e1
    subst e0; subst e1
    exact ⟨(a, b), rfl, w0, w1⟩
end
end Go.Proofs.YtedfogpnmpmggaaDoor
