/- Chapter 30: rows of four forms, as an argument. -/
import Derived.Test.YtpbbnmjkbfbelaaDoorWe
import Derived.Test.YtpbbnmjkbfbelaaDoorYt
set_option linter.unusedSimpArgs false
set_option linter.unusedVariables false
namespace Go.Proofs.YtpbbnmjkbfbelaaDoor
open Go Go.Sy Go.ChangeShapes Go.WideShapes Go.ChangeAt Go.WideElems Go.RowKit Go.Joins Go.Deep
section
variable {H : Type} {enc : TypeId × Value → H} {P : Program} {w : World} {base : Nat} {spare : Nat → Bool} {held : Bool}
theorem reads_quad {t e : TypeId} {Q : SL Snd → Prop} (ht : P.underlying t = some (.array 4 e)) (hC : P.cellsOf t = 8) (hE : P.cellsOf e = 2) (r0 : Reads enc P w base spare held e (fun s : Bool × SL Snd => [.bool s.1, s.2.v]) (fun s => Q s.2)) :
    Reads enc P w base spare held t (fun s : List (Bool × SL Snd) => s.flatMap fun x => [.bool x.1, x.2.v]) (fun s => s.length = 4 ∧ ∀ x ∈ s, Q x.2) := fun n cs x h hl => by
  obtain ⟨xs, m, _, _, _, hn, hel⟩ := DataW.trod_array ht h
  rw [hC] at hl
  rw [hE] at hel
  match cs, hl with
  | [v0, v1, v2, v3, v4, v5, v6, v7], _ =>
  have q0 := hel 0 (by decide)
  have q1 := hel 1 (by decide)
  have q2 := hel 2 (by decide)
  have q3 := hel 3 (by decide)
  match xs, hn with
  | [x0, x1, x2, x3], _ =>
    obtain ⟨A, e0, hA⟩ := r0 _ _ _ q0 (by simp [hE])
    obtain ⟨B, e1, hB⟩ := r0 _ _ _ q1 (by simp [hE])
    obtain ⟨C, e2, hc⟩ := r0 _ _ _ q2 (by simp [hE])
    obtain ⟨D, e3, hD⟩ := r0 _ _ _ q3 (by simp [hE])
    simp at e0 e1 e2 e3
    obtain ⟨rfl, rfl⟩ := e0
    obtain ⟨rfl, rfl⟩ := e1
    obtain ⟨rfl, rfl⟩ := e2
    obtain ⟨rfl, rfl⟩ := e3
    exact ⟨[A, B, C, D], rfl, rfl, by simp [hA, hB, hc, hD]⟩
end
def quadOf (l : List (Bool × SL Snd)) : List FD := l.map fdOf
abbrev QGood (w : World) (s : SL (List (Bool × SL Snd))) : Prop := s.good w (fun l => l.flatMap fun x => [.bool x.1, x.2.v]) fun l => l.length = 4 ∧ ∀ x ∈ l, x.2.good w scell Sok
theorem quad_at {w : World} {s : SL (List (Bool × SL Snd))} (h : QGood w s) : FourAt (Mv.of w) s.p (s.l.map quadOf) := by
  refine ⟨?_, fun r hr f hf => ?_⟩
  · have : s.l.flatMap (fun l => l.flatMap fun x => [.bool x.1, x.2.v]) = (s.l.map quadOf).flatMap fcells := by
      rw [List.flatMap_map]
      congr 1
      funext l
      exact fcells_of l
    rw [← this]; exact h.1
  · obtain ⟨l, hl, rfl⟩ := List.mem_map.1 hr
    obtain ⟨x, hx, rfl⟩ := List.mem_map.1 hf
    exact ((h.2.2.2 l hl).2 x hx).1
theorem quad_4 {w : World} {s : SL (List (Bool × SL Snd))} (h : QGood w s) : ∀ r ∈ s.l.map quadOf, r.length = 4 := fun r hr => by
  obtain ⟨l, hl, rfl⟩ := List.mem_map.1 hr
  exact (List.length_map ..).trans (h.2.2.2 l hl).1
theorem quad_ok {w : World} {s : SL (List (Bool × SL Snd))} (h : QGood w s) : ∀ r ∈ s.l.map quadOf, ∀ f ∈ r, Wok f.w.w ∧ f.w.ok := fun r hr f hf => by
  obtain ⟨l, hl, rfl⟩ := List.mem_map.1 hr
  obtain ⟨x, hx, rfl⟩ := List.mem_map.1 hf
  have := (h.2.2.2 l hl).2 x hx
  exact ⟨this.2.2.2, this.2.1.2, this.2.1.1⟩
theorem quad_len {w : World} {s : SL (List (Bool × SL Snd))} (h : QGood w s) : (s.l.map quadOf).length ≤ maxLen := by rw [List.length_map]; exact h.2.2.1
theorem nat_of_wf8 {n : Int} (h : (Lit.int .u8 n).wf = true) : ∃ m : Nat, n = (m : Int) ∧ m < 2 ^ 8 := by
  simp only [Lit.wf, Bool.and_eq_true, decide_eq_true_eq] at h
  have h1' : (0 : Int) ≤ n := h.1
  have h2' : n ≤ 255 := h.2
  exact ⟨n.toNat, by omega, by omega⟩
theorem u8_range {x : Int} (h : (Lit.int .u8 x).wf = true) : 0 ≤ x ∧ x < 256 := by
  obtain ⟨n, rfl, hn⟩ := nat_of_wf8 h
  constructor <;> omega
end Go.Proofs.YtpbbnmjkbfbelaaDoor
