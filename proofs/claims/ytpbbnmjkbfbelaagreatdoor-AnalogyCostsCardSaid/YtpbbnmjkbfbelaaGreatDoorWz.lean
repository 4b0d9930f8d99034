/- Chapter 30: models, three words and costs, as an argument. -/
import Derived.Test.YtpbbnmjkbfbelaaGreatDoorWd
import Derived.Test.YtpbbnmjkbfbelaaGreatDoorZb
set_option linter.unusedSimpArgs false
set_option linter.unusedVariables false
namespace Go.Proofs.YtpbbnmjkbfbelaaGreatDoor
open Go Go.Sy Go.ChangeShapes Go.WideShapes Go.ChangeAt Go.WideElems Go.RowKit Go.Joins Go.Deep
section
variable {H : Type} {enc : TypeId × Value → H} {P : Program} {w : World} {base : Nat} {spare : Nat → Bool} {held : Bool}
structure CS where
  p : Option Addr
  cap : Nat
  l : List Int
  gap : Int
theorem reads_costs {t e : TypeId} {f0 f1 : Field} (he : P.underlying t = some (.struct #[f0, f1])) (hC : P.cellsOf t = 2) (o0 : f0.offset = 0) (o1 : f1.offset = 1) (c0 : P.cellsOf f0.type = 1) (c1 : P.cellsOf f1.type = 1) (h0 : P.underlying f0.type = some (.slice e)) (hee : P.underlying e = some (.int .i64)) (hc : P.cellsOf e = 1) (h1 : P.underlying f1.type = some (.int .i64)) :
    Reads enc P w base spare held t (fun c : CS => [slv c.p c.l.length c.cap, .int .i64 c.gap]) (fun c => CostsAt (Mv.of w) c.p c.l ∧ (c.p = none → c.cap = 0)) := fun n cs x h hl => by
  obtain ⟨xs, k, _, _, _, hxl, hf⟩ := DataW.trod_struct he h
  rw [hC] at hl
  match cs, hl with
  | [v0, v1], _ =>
    have q0 := hf 0 f0 rfl
    have q1 := hf 1 f1 rfl
    rw [o0, c0] at q0
    rw [o1, c1] at q1
    match xs, hxl with
    | [x0, x1], _ =>
      obtain ⟨q, cap, ws, e0, hcells, hn, hw⟩ := open_sl h0 hee hc q0
      obtain ⟨b, e1, _, w1⟩ := DataW.trod_int h1 q1
      simp at e0 e1
      subst e0; subst e1
      exact ⟨⟨q, cap, ws, b⟩, rfl, hcells, hn⟩
theorem open_cost {r : Reach} {b0 : Nat} {t : TypeId} {v : Value} {d : DataW H} {p : List MemPlace} {f0 f1 f2 f3 f4 : Field} {Q0 : SL (SL Snd × SL Snd) → Prop} {Q1 Q2 Q3 : SL Snd → Prop} {Q4 : CS → Prop} (hs : P.underlying t = some (.struct #[f0, f1, f2, f3, f4])) (hC : P.cellsOf t = 6) (o0 : f0.offset = 0) (o1 : f1.offset = 1) (o2 : f2.offset = 2) (o3 : f3.offset = 3) (o4 : f4.offset = 4) (c0 : P.cellsOf f0.type = 1) (c1 : P.cellsOf f1.type = 1) (c2 : P.cellsOf f2.type = 1) (c3 : P.cellsOf f3.type = 1) (c4 : P.cellsOf f4.type = 2)
    (r0 : Reads enc P w base spare held f0.type (fun s : SL (SL Snd × SL Snd) => [s.v]) Q0) (r1 : Reads enc P w base spare held f1.type (fun s : SL Snd => [s.v]) Q1) (r2 : Reads enc P w base spare held f2.type (fun s : SL Snd => [s.v]) Q2) (r3 : Reads enc P w base spare held f3.type (fun s : SL Snd => [s.v]) Q3) (r4 : Reads enc P w base spare held f4.type (fun c : CS => [slv c.p c.l.length c.cap, .int .i64 c.gap]) Q4)
    (hv : Value.okWide P w r b0 t v) (h : DataW.Trod enc P w base spare held t v d p) : ∃ (M : SL (SL Snd × SL Snd)) (A B C : SL Snd) (c : CS), v = .agg #[M.v, A.v, B.v, C.v, slv c.p c.l.length c.cap, .int .i64 c.gap] ∧ Q0 M ∧ Q1 A ∧ Q2 B ∧ Q3 C ∧ Q4 c := by
  unfold Value.okWide at hv
  rw [hs] at hv
  obtain ⟨cs, rfl, hsz, _⟩ := hv
  obtain ⟨fuel, hf⟩ := h
  obtain ⟨xs, k, _, _, _, hxl, hf⟩ := DataW.trod_struct hs hf
  rw [hC] at hsz
  obtain ⟨l⟩ := cs
  match l, hsz with
  | [v0, v1, v2, v3, v4, v5], _ =>
    have q0 := hf 0 f0 rfl
    have q1 := hf 1 f1 rfl
    have q2 := hf 2 f2 rfl
    have q3 := hf 3 f3 rfl
    have q4 := hf 4 f4 rfl
    rw [o0, c0] at q0
    rw [o1, c1] at q1
    rw [o2, c2] at q2
    rw [o3, c3] at q3
    rw [o4, c4] at q4
    match xs, hxl with
    | [x0, x1, x2, x3, x4], _ =>
      obtain ⟨M, e0, hM⟩ := r0 _ _ _ q0 (by simp [Value.cells, c0])
      obtain ⟨A, e1, hA⟩ := r1 _ _ _ q1 (by simp [Value.cells, c1])
      obtain ⟨B, e2, hB⟩ := r2 _ _ _ q2 (by simp [Value.cells, c2])
      obtain ⟨C, e3, hD⟩ := r3 _ _ _ q3 (by simp [Value.cells, c3])
      obtain ⟨c, e4, hc⟩ := r4 _ _ _ q4 (by simp [Value.cells, c4])
      simp [Value.cells] at e0 e1 e2 e3 e4
      obtain ⟨e4, e5⟩ := e4
      subst e0; subst e1; subst e2; subst e3; subst e4; subst e5
      exact ⟨M, A, B, C, c, rfl, hM, hA, hB, hD, hc⟩
end
theorem len62 {n : Nat} (h : n ≤ maxLen) : n < 2 ^ 63 := by unfold maxLen at h; omega
end Go.Proofs.YtpbbnmjkbfbelaaGreatDoor
