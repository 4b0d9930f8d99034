/- Chapter 30: an array of two words, as an argument. -/
import Derived.Test.YtpbbnmjkbfbelabDoorWd
import Derived.Test.YtpbbnmjkbfbelabDoorZe
set_option linter.unusedSimpArgs false
set_option linter.unusedVariables false
namespace Go.Proofs.YtpbbnmjkbfbelabDoor
open Go Go.Sy Go.ChangeShapes Go.WideShapes Go.ChangeAt Go.WideElems Go.RowKit Go.Joins Go.Deep
section
variable {H : Type} {enc : TypeId × Value → H} {P : Program} {w : World} {base : Nat} {spare : Nat → Bool} {held : Bool}
theorem open_words {r : Reach} {b0 : Nat} {t e : TypeId} {v : Value} {d : DataW H} {p : List MemPlace} {Q : SL Snd → Prop} (hs : P.underlying t = some (.array 2 e)) (hC : P.cellsOf t = 2) (hE : P.cellsOf e = 1) (r0 : Reads enc P w base spare held e (fun s : SL Snd => [s.v]) Q)
    (hv : Value.okWide P w r b0 t v) (h : DataW.Trod enc P w base spare held t v d p) : ∃ A B : SL Snd, v = .agg #[A.v, B.v] ∧ Q A ∧ Q B := by
  unfold Value.okWide at hv
  rw [hs] at hv
  obtain ⟨cs, rfl, hsz, _⟩ := hv
  obtain ⟨l⟩ := cs
  rw [hC] at hsz
  match l, hsz with
  | [v0, v1], _ =>
  obtain ⟨fuel, hf⟩ := h
  obtain ⟨xs, m, _, _, _, hn, hel⟩ := DataW.trod_array hs hf
  rw [hE] at hel
  have q0 := hel 0 (by decide)
  have q1 := hel 1 (by decide)
  match xs, hn with
  | [x0, x1], _ =>
    obtain ⟨A, e0, hA⟩ := r0 _ _ _ q0 (by simp [Value.cells, hE])
    obtain ⟨B, e1, hB⟩ := r0 _ _ _ q1 (by simp [Value.cells, hE])
    simp [Value.cells] at e0 e1
    subst e0; subst e1
    exact ⟨A, B, rfl, hA, hB⟩
end
theorem nat_of_wf8 {n : Int} (h : (Lit.int .u8 n).wf = true) : ∃ m : Nat, n = (m : Int) ∧ m < 2 ^ 8 := by
  simp only [Lit.wf, Bool.and_eq_true, decide_eq_true_eq] at h
  have h1' : (0 : Int) ≤ n := h.1
  have h2' : n ≤ 255 := h.2
  exact ⟨n.toNat, by omega, by omega⟩
theorem u8_range {x : Int} (h : (Lit.int .u8 x).wf = true) : 0 ≤ x ∧ x < 256 := by
  obtain ⟨n, rfl, hn⟩ := nat_of_wf8 h
  constructor <;> omega
end Go.Proofs.YtpbbnmjkbfbelabDoor
