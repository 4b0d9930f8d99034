/- What a law's arguments are, out of what they read as. -/
import Derived.Test.YtiocflikonfefaaDoorWa
import Derived.Lib.SmallJoins
set_option linter.unusedSimpArgs false
set_option linter.unusedVariables false
namespace Go.Proofs.YtiocflikonfefaaDoor
open Go Go.Sy Go.ChangeShapes Go.WideShapes Go.ChangeAt Go.WideElems Go.RowKit Go.Joins Go.Deep
section
variable {H : Type} {enc : TypeId × Value → H} {P : Program} {w : World} {base : Nat} {spare : Nat → Bool} {held : Bool}
theorem nat_of_wf32 {n : Int} (h : (Lit.int .u32 n).wf = true) : ∃ m : Nat, n = (m : Int) ∧ m < 2 ^ 32 := by
  simp only [Lit.wf, Bool.and_eq_true, decide_eq_true_eq] at h
  have h1 := h.1
  have h2 := h.2
  have h1' : (0 : Int) ≤ n := h1
  have h2' : n ≤ 4294967295 := h2
  exact ⟨n.toNat, by omega, by omega⟩
theorem open_snd {r : Reach} {b0 : Nat} {t : TypeId} {v : Value} {d : DataW H} {p : List MemPlace} (f0 f1 : Field) (hs : P.underlying t = some (.struct #[f0, f1])) (hone : oneCellFields P #[f0, f1] = true) (hC : P.cellsOf t = 2)
    (h0 : P.underlying f0.type = some (.int .u32)) (h1 : P.underlying f1.type = some (.int .u32)) (hv : Value.okWide P w r b0 t v) (h : DataW.Trod enc P w base spare held t v d p) : ∃ s : Snd, v = snd s ∧ Sok s := by
  obtain ⟨v0, v1, y0, y1, n, rfl, _, _, q0, q1⟩ := open_agg2 hs hone hC hv h
  obtain ⟨a, e0, _, w0⟩ := DataW.trod_int h0 q0
  obtain ⟨b, e1, _, w1⟩ := DataW.trod_int h1 q1
  obtain ⟨a', rfl, ha⟩ := nat_of_wf32 w0
  obtain ⟨b', rfl, hb⟩ := nat_of_wf32 w1
  simp only [List.cons.injEq, and_true] at e0 e1
  subst e0; subst e1
  exact ⟨(a', b'), rfl, ha, hb⟩
theorem open_pair {r : Reach} {b0 : Nat} {t e : TypeId} {v : Value} {d : DataW H} {p : List MemPlace} (hs : P.underlying t = some (.array 2 e)) (he : P.underlying e = some (.int .u32)) (hC : P.cellsOf t = 2) (hE : P.cellsOf e = 1)
    (hv : Value.okWide P w r b0 t v) (h : DataW.Trod enc P w base spare held t v d p) : ∃ s : Snd, v = snd s ∧ Sok s := by
  unfold Value.okWide at hv
  rw [hs] at hv
  obtain ⟨cs, rfl, hsz, _⟩ := hv
  obtain ⟨c0, c1, rfl⟩ := array2 (hsz.trans hC)
  obtain ⟨fuel, hf⟩ := h
  obtain ⟨xs, m, _, _, _, hn, hel⟩ := DataW.trod_array hs hf
  rw [hE] at hel
  have q0 := hel 0 (by decide)
  have q1 := hel 1 (by decide)
  match xs, hn with
  | [x0, x1], _ =>
    obtain ⟨a, e0, _, w0⟩ := DataW.trod_int he q0
    obtain ⟨b, e1, _, w1⟩ := DataW.trod_int he q1
    obtain ⟨a', rfl, ha⟩ := nat_of_wf32 w0
    obtain ⟨b', rfl, hb⟩ := nat_of_wf32 w1
    simp [Value.cells] at e0 e1
    subst e0; subst e1
    exact ⟨(a', b'), rfl, ha, hb⟩
end
end Go.Proofs.YtiocflikonfefaaDoor
