/- What a law's arguments are: slices of anything, words, lists of words, pairs. -/
import Derived.Test.YtpbbnmjkbfbelaaDoorWb
import Derived.Test.YtpbbnmjkbfbelaaDoorBe
import Derived.Deep.Slices
set_option linter.unusedSimpArgs false
set_option linter.unusedVariables false
namespace Go.Proofs.YtpbbnmjkbfbelaaDoor
open Go Go.Sy Go.ChangeShapes Go.WideShapes Go.ChangeAt Go.WideElems Go.RowKit Go.Joins Go.Deep
section
variable {H : Type} {enc : TypeId × Value → H} {P : Program} {w : World} {base : Nat} {spare : Nat → Bool} {held : Bool}
/-- How cells of type e read: as f of something of which Q holds. -/
def Reads (enc : TypeId × Value → H) (P : Program) (w : World) (base : Nat) (spare : Nat → Bool) (held : Bool) {α : Type} (e : TypeId) (f : α → List Value) (Q : α → Prop) : Prop :=
  ∀ n cs x, DataW.trod enc P w base spare held n e cs = some x → cs.length = P.cellsOf e → ∃ a : α, cs = f a ∧ Q a
/-- A slice. -/
structure SL (α : Type) where
  p : Option Addr
  cap : Nat
  l : List α
def SL.v {α : Type} (s : SL α) : Value := slv s.p s.l.length s.cap
def SL.good {α : Type} (w : World) (f : α → List Value) (Q : α → Prop) (s : SL α) : Prop := Cells (Mv.of w) s.p (s.l.flatMap f) ∧ ((s.p = none → s.cap = 0) ∧ s.l.length ≤ s.cap) ∧ s.l.length ≤ maxLen ∧ ∀ a ∈ s.l, Q a
theorem flatMap_at {α : Type} (f : α → List Value) (k : Nat) (l : List α) (hf : ∀ a ∈ l, (f a).length = k) (i : Nat) (x : Value) (h : (l.flatMap f)[i]? = some x) : ∃ (j : Nat) (a : α), l[j]? = some a ∧ i = j * k + (i - j * k) ∧ i - j * k < k ∧ (f a)[i - j * k]? = some x := by
  induction l generalizing i with
  | nil => simp at h
  | cons a l ih =>
    have ha := hf a (by simp)
    rw [List.flatMap_cons] at h
    rcases Nat.lt_or_ge i k with hi | hi
    · rw [List.getElem?_append_left (by omega)] at h
      exact ⟨0, a, rfl, by omega, by omega, by simpa using h⟩
    · rw [List.getElem?_append_right (by omega), ha] at h
      obtain ⟨j, b, h1, h2, h3, h4⟩ := ih (fun b hb => hf b (by simp [hb])) (i - k) h
      have e : i - (j + 1) * k = i - k - j * k := by rw [Nat.add_mul]; omega
      refine ⟨j + 1, b, by simpa using h1, ?_, by rw [e]; exact h3, by rw [e]; exact h4⟩
      rw [e, Nat.add_mul]; omega
theorem open_slN {α : Type} [Inhabited α] {t e : TypeId} {k : Nat} {fuel : Nat} {cs : List Value} {x : DataW H × List MemPlace} {f : α → List Value} {Q : α → Prop} (ht : P.underlying t = some (.slice e)) (hk : P.cellsOf e = k) (hel : Reads enc P w base spare held e f Q) (h : DataW.trod enc P w base spare held fuel t cs = some x) :
    ∃ s : SL α, cs = [s.v] ∧ s.good w f Q := by
  rcases open_slice ht h with ⟨rfl, _⟩ | ⟨a, len, cap, m, n, D, Pl, rfl, _, hl, hm, hmm, _, hx⟩
  · exact ⟨⟨none, 0, []⟩, rfl, fun i x hx => by simp at hx, ⟨fun _ => rfl, Nat.le_refl _⟩, Nat.zero_le _, fun a ha => by cases ha⟩
  · have hlm : len ≤ m := by rw [hmm]; split <;> omega
    obtain ⟨F, hF⟩ := choose_lt (n := len) (p := fun i a' => (f a').length = k ∧ Q a' ∧ ∀ j, j < k → w.cell? ((a.add (i * k)).add j) = (f a')[j]?) (fun i hi => by
      obtain ⟨cs', h1, h2⟩ := hx i (by omega)
      obtain ⟨_, hlen, hcell⟩ := World.cells?_some h1
      obtain ⟨y, rfl, hQ⟩ := hel n cs' _ h2 hlen
      rw [hk] at hlen hcell
      exact ⟨y, hlen, hQ, hcell⟩)
    refine ⟨⟨some a, cap, (List.range len).map F⟩, by simp [SL.v, slv, addr_zero], fun i x hx => ?_, ⟨(fun h => by cases h), by simp; omega⟩, (by simp; omega), fun y hy => ?_⟩
    · have hall : ∀ y ∈ (List.range len).map F, (f y).length = k := fun y hy => by
        obtain ⟨i, hi, rfl⟩ := List.mem_map.1 hy
        exact (hF i (List.mem_range.1 hi)).1
      obtain ⟨j, y, h1, h2, h3, h4⟩ := flatMap_at f k _ hall i x hx
      rw [List.getElem?_map, Option.map_eq_some_iff] at h1
      obtain ⟨j', hj, rfl⟩ := h1
      obtain ⟨hj1, hj2⟩ := List.getElem?_eq_some_iff.1 hj
      rw [List.getElem_range] at hj2
      subst hj2
      rw [List.length_range] at hj1
      have hc := (hF j hj1).2.2 (i - j * k) h3
      rw [h4] at hc
      have h0 := hF 0 (by omega)
      have hc0 := h0.2.2 0 (by omega)
      have hl0 : 0 < (f (F 0)).length := by have := h0.1; omega
      clear h0
      rw [List.getElem?_eq_getElem hl0, Nat.zero_mul, addr_zero, addr_zero] at hc0
      have hs := spot_none hc0
      rw [add_add, ← h2] at hc
      obtain ⟨b, o, sp⟩ := a
      simp only at hs
      subst hs
      refine ⟨b, o, rfl, ?_⟩
      rw [addr_add] at hc
      exact hc
    · obtain ⟨i, hi, rfl⟩ := List.mem_map.1 hy
      exact (hF i (List.mem_range.1 hi)).2.1
/-- An argument that is a slice. -/
theorem arg_slN {α : Type} [Inhabited α] {r : Reach} {b0 : Nat} {t e : TypeId} {k : Nat} {v : Value} {d : DataW H} {p : List MemPlace} {f : α → List Value} {Q : α → Prop} (ht : P.underlying t = some (.slice e)) (hk : P.cellsOf e = k) (hel : Reads enc P w base spare held e f Q)
    (hv : Value.okWide P w r b0 t v) (h : DataW.Trod enc P w base spare held t v d p) : ∃ s : SL α, v = s.v ∧ s.good w f Q := by
  obtain ⟨fuel, hf⟩ := h
  obtain ⟨s, e0, hs⟩ := open_slN ht hk hel hf
  have hcs : v.cells.toList = [s.v] := e0
  refine ⟨s, ?_, hs⟩
  unfold Value.okWide at hv
  rw [ht] at hv
  simp only [] at hv
  cases v with
  | agg l => simp [Cell.okWide, Cell.ok, ht] at hv
  | _ => simpa [Value.cells] using hcs
/-! Elements. -/
theorem reads_snd {e : TypeId} {f0 f1 : Field} (he : P.underlying e = some (.struct #[f0, f1])) (hC : P.cellsOf e = 2) (o0 : f0.offset = 0) (o1 : f1.offset = 1) (c0 : P.cellsOf f0.type = 1) (c1 : P.cellsOf f1.type = 1) (h0 : P.underlying f0.type = some (.int .u32)) (h1 : P.underlying f1.type = some (.int .u32)) :
    Reads enc P w base spare held e scell Sok := fun n cs x h hl => by
  obtain ⟨xs, k, _, _, _, hxl, hf⟩ := DataW.trod_struct he h
  rw [hC] at hl
  match cs, hl with
  | [v0, v1], _ =>
    have q0 := hf 0 f0 rfl
    have q1 := hf 1 f1 rfl
    rw [o0, c0] at q0
    rw [o1, c1] at q1
    match xs, hxl with
    | [x0, x1], _ =>
      obtain ⟨a, e0, _, w0⟩ := DataW.trod_int h0 q0
      obtain ⟨b, e1, _, w1⟩ := DataW.trod_int h1 q1
      obtain ⟨a', rfl, ha⟩ := nat_of_wf32 w0
      obtain ⟨b', rfl, hb⟩ := nat_of_wf32 w1
      simp at e0 e1
      subst e0; subst e1
      exact ⟨(a', b'), rfl, ha, hb⟩
/-- Two numbers of one kind in an array. -/
theorem reads_pair {e e' : TypeId} {k : IntKind} (he : P.underlying e = some (.array 2 e')) (hC : P.cellsOf e = 2) (hE : P.cellsOf e' = 1) (h0 : P.underlying e' = some (.int k)) :
    Reads enc P w base spare held e (fun x : Int × Int => [.int k x.1, .int k x.2]) (fun x => (Lit.int k x.1).wf = true ∧ (Lit.int k x.2).wf = true) := fun n cs x h hl => by
  obtain ⟨xs, m, _, _, _, hxl, hf⟩ := DataW.trod_array he h
  rw [hC] at hl
  rw [hE] at hf
  match cs, hl with
  | [v0, v1], _ =>
    have q0 := hf 0 (by decide)
    have q1 := hf 1 (by decide)
    match xs, hxl with
    | [x0, x1], _ =>
      obtain ⟨a, e0, _, w0⟩ := DataW.trod_int h0 q0
      obtain ⟨b, e1, _, w1⟩ := DataW.trod_int h0 q1
      simp at e0 e1
      subst e0; subst e1
      exact ⟨(a, b), rfl, w0, w1⟩
theorem reads_int {e : TypeId} {k : IntKind} (h0 : P.underlying e = some (.int k)) : Reads enc P w base spare held e (fun x : Int => [.int k x]) (fun x => (Lit.int k x).wf = true) := fun n cs x h _ => by
  obtain ⟨a, e0, _, w0⟩ := DataW.trod_int h0 h
  exact ⟨a, e0, w0⟩
/-- A slice in a cell. -/
theorem reads_slN {α : Type} [Inhabited α] {t e : TypeId} {k : Nat} {f : α → List Value} {Q : α → Prop} (ht : P.underlying t = some (.slice e)) (hk : P.cellsOf e = k) (hel : Reads enc P w base spare held e f Q) : Reads enc P w base spare held t (fun s : SL α => [s.v]) (fun s => s.good w f Q) := fun n cs x h _ => open_slN ht hk hel h
def SL.wd (s : SL Snd) : WD := ⟨s.p, s.cap, s.l⟩
theorem SL.wd_v (s : SL Snd) : s.wd.v = s.v := rfl
instance {α : Type} : Inhabited (SL α) := ⟨⟨none, 0, []⟩⟩
end
end Go.Proofs.YtpbbnmjkbfbelaaDoor
