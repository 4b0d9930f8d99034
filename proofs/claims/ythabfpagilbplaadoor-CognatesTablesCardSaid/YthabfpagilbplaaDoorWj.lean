/- Chapter 19: entries as arguments. -/
import Derived.Test.YthabfpagilbplaaDoorRg
import Derived.Test.YthabfpagilbplaaDoorWh
set_option linter.unusedSimpArgs false
set_option linter.unusedVariables false
namespace Go.Proofs.YthabfpagilbplaaDoor
open Go Go.Sy Go.ChangeShapes Go.WideShapes Go.ChangeAt Go.WideElems Go.RowKit Go.Joins Go.Deep
section
variable {H : Type} {enc : TypeId × Value → H} {P : Program} {w : World} {base : Nat} {spare : Nat → Bool} {held : Bool}
/-- An entry. -/
theorem reads_entry {α : Type} {e : TypeId} {f0 f1 : Field} {Q1 : SL α → Prop} (he : P.underlying e = some (.struct #[f0, f1])) (hC : P.cellsOf e = 2) (o0 : f0.offset = 0) (o1 : f1.offset = 1) (c0 : P.cellsOf f0.type = 1) (c1 : P.cellsOf f1.type = 1) (h0 : P.underlying f0.type = some .string)
    (r1 : Reads enc P w base spare held f1.type (fun s : SL α => [s.v]) Q1) : Reads enc P w base spare held e (fun s : ByteArray × SL α => [.string s.1, s.2.v]) (fun s => Q1 s.2) := fun n cs x h hl => by
  obtain ⟨xs, k, _, _, _, hxl, hf⟩ := DataW.trod_struct he h
  rw [hC] at hl
  match cs, hl with
  | [v0, v1], _ =>
    have q0 := hf 0 f0 rfl
    have q1 := hf 1 f1 rfl
    rw [o0, c0] at q0
    rw [o1, c1] at q1
    match xs, hxl with
    | [x0, x1], _ =>
      obtain ⟨b, e0, _⟩ := DataW.trod_string h0 q0
      obtain ⟨B, e1, hB⟩ := r1 _ _ _ q1 (by simp [c1])
      simp at e0 e1
      subst e0; subst e1
      exact ⟨(b, B), rfl, hB⟩
end
def edOf (s : ByteArray × SL (Bool × SL Snd)) : ED := ⟨.string s.1, s.2.p, s.2.cap, s.2.l.map fdOf⟩
theorem ecells_of (l : List (ByteArray × SL (Bool × SL Snd))) : l.flatMap (fun s => [.string s.1, s.2.v]) = ecells (l.map edOf) := by
  unfold ecells
  rw [List.flatMap_map]
  simp [edOf, ED.v, SL.v]
abbrev EGood (w : World) (s : SL (ByteArray × SL (Bool × SL Snd))) : Prop := s.good w (fun x => [.string x.1, x.2.v]) fun x => FGood w x.2
theorem entries_at {w : World} {s : SL (ByteArray × SL (Bool × SL Snd))} (h : EGood w s) : EntriesAt (Mv.of w) s.p (s.l.map edOf) := ⟨by rw [← ecells_of]; exact h.1, fun x hx => by
  obtain ⟨y, hy, rfl⟩ := List.mem_map.1 hx
  exact forms_at (h.2.2.2 y hy)⟩
theorem entries_ok {w : World} {s : SL (ByteArray × SL (Bool × SL Snd))} (h : EGood w s) : (∀ x ∈ s.l.map edOf, x.g.oneCell' = true) ∧ (∀ x ∈ s.l.map edOf, x.l.length ≤ x.cap ∧ x.l.length < 2 ^ 63) ∧ ∀ x ∈ s.l.map edOf, ∀ f ∈ x.l, Wok f.w.w := by
  refine ⟨fun x hx => ?_, fun x hx => ?_, fun x hx => ?_⟩ <;> obtain ⟨y, hy, rfl⟩ := List.mem_map.1 hx
  · rfl
  · have := h.2.2.2 y hy
    refine ⟨?_, ?_⟩
    · show (y.2.l.map fdOf).length ≤ _
      rw [List.length_map]; exact this.2.1.2
    · show (y.2.l.map fdOf).length < _
      rw [List.length_map]; exact len62 this.2.2.1
  · exact fun f hf => (forms_ok (h.2.2.2 y hy) f hf).1
end Go.Proofs.YthabfpagilbplaaDoor
