/- What a law's arguments are, out of what they read as. -/
import Derived.Test.YtpbbnmjkbfbelaaDoorWa
import Derived.Lib.SmallJoins
import Derived.ChangeSlices
import Derived.Test.YtpbbnmjkbfbelaaDoorBa
set_option linter.unusedSimpArgs false
set_option linter.unusedVariables false
namespace Go.Proofs.YtpbbnmjkbfbelaaDoor
open Go Go.Sy Go.ChangeShapes Go.WideShapes Go.ChangeAt Go.WideElems Go.RowKit Go.Joins Go.Deep
section
variable {H : Type} {enc : TypeId × Value → H} {P : Program} {w : World} {base : Nat} {spare : Nat → Bool} {held : Bool}
theorem nat_of_wf32 {n : Int} (h : (Lit.int .u32 n).wf = true) : ∃ m : Nat, n = (m : Int) ∧ m < 2 ^ 32 := by
  simp only [Lit.wf, Bool.and_eq_true, decide_eq_true_eq] at h
  have h1 := h.1
  have h2 := h.2
  have h1' : (0 : Int) ≤ n := h1
  have h2' : n ≤ 4294967295 := h2
  exact ⟨n.toNat, by omega, by omega⟩
theorem open_snd {r : Reach} {b0 : Nat} {t : TypeId} {v : Value} {d : DataW H} {p : List MemPlace} (f0 f1 : Field) (hs : P.underlying t = some (.struct #[f0, f1])) (hone : oneCellFields P #[f0, f1] = true) (hC : P.cellsOf t = 2)
    (h0 : P.underlying f0.type = some (.int .u32)) (h1 : P.underlying f1.type = some (.int .u32)) (hv : Value.okWide P w r b0 t v) (h : DataW.Trod enc P w base spare held t v d p) : ∃ s : Snd, v = snd s ∧ Sok s := by
  obtain ⟨v0, v1, y0, y1, n, rfl, _, _, q0, q1⟩ := open_agg2 hs hone hC hv h
  obtain ⟨a, e0, _, w0⟩ := DataW.trod_int h0 q0
  obtain ⟨b, e1, _, w1⟩ := DataW.trod_int h1 q1
  obtain ⟨a', rfl, ha⟩ := nat_of_wf32 w0
  obtain ⟨b', rfl, hb⟩ := nat_of_wf32 w1
  simp only [List.cons.injEq, and_true] at e0 e1
  subst e0; subst e1
  exact ⟨(a', b'), rfl, ha, hb⟩
theorem open_pair {r : Reach} {b0 : Nat} {t e : TypeId} {v : Value} {d : DataW H} {p : List MemPlace} (hs : P.underlying t = some (.array 2 e)) (he : P.underlying e = some (.int .u32)) (hC : P.cellsOf t = 2) (hE : P.cellsOf e = 1)
    (hv : Value.okWide P w r b0 t v) (h : DataW.Trod enc P w base spare held t v d p) : ∃ s : Snd, v = snd s ∧ Sok s := by
  unfold Value.okWide at hv
  rw [hs] at hv
  obtain ⟨cs, rfl, hsz, _⟩ := hv
  obtain ⟨c0, c1, rfl⟩ := array2 (hsz.trans hC)
  obtain ⟨fuel, hf⟩ := h
  obtain ⟨xs, m, _, _, _, hn, hel⟩ := DataW.trod_array hs hf
  rw [hE] at hel
  have q0 := hel 0 (by decide)
  have q1 := hel 1 (by decide)
  match xs, hn with
  | [x0, x1], _ =>
    obtain ⟨a, e0, _, w0⟩ := DataW.trod_int he q0
    obtain ⟨b, e1, _, w1⟩ := DataW.trod_int he q1
    obtain ⟨a', rfl, ha⟩ := nat_of_wf32 w0
    obtain ⟨b', rfl, hb⟩ := nat_of_wf32 w1
    simp [Value.cells] at e0 e1
    subst e0; subst e1
    exact ⟨(a', b'), rfl, ha, hb⟩
theorem spot_none {w : World} {a : Addr} {v : Value} (h : w.cell? a = some v) : a.spot = none := by
  unfold World.cell? at h
  split at h
  · split at h
    · cases h
    · rename_i hs; simpa using hs
  · cases h
/-- A slice of numbers. -/
theorem open_sl {t e : TypeId} {k : IntKind} {fuel : Nat} {cs : List Value} {x : DataW H × List MemPlace} (ht : P.underlying t = some (.slice e)) (he : P.underlying e = some (.int k)) (hc : P.cellsOf e = 1) (h : DataW.trod enc P w base spare held fuel t cs = some x) :
    ∃ (p : Option Addr) (cap : Nat) (zs : List Int), cs = [slv p zs.length cap] ∧ Cells (Mv.of w) p (zs.map (.int k)) ∧ (p = none → cap = 0) ∧ ∀ z ∈ zs, (Lit.int k z).wf = true := by
  rcases open_ints ht he hc h with ⟨rfl, _⟩ | ⟨a, len, cap, zs, rfl, _, hl, _, hz, _, hcell, hwf⟩
  · exact ⟨none, 0, [], rfl, fun i x hx => by simp at hx, fun _ => rfl, fun z hz => by cases hz⟩
  · have hle : len ≤ zs.length := by rw [hz]; split <;> omega
    refine ⟨some a, cap, zs.take len, by rw [List.length_take, Nat.min_eq_left hle]; rfl, fun i x hx => ?_, fun h => (by cases h), fun z hz => hwf z (List.mem_of_mem_take hz)⟩
    rw [List.getElem?_map, List.getElem?_take] at hx
    split at hx
    · rename_i hi
      have hi' : i < zs.length := by omega
      have h0 := hcell 0 (by omega)
      have hs := spot_none h0
      rw [addr_zero] at hs
      have hci := hcell i hi'
      obtain ⟨b, o, sp⟩ := a
      simp only at hs
      subst hs
      refine ⟨b, o, rfl, ?_⟩
      rw [addr_add] at hci
      show w.cell? ⟨b, o + i, none⟩ = _
      rw [hci]
      rw [List.getElem?_eq_getElem hi'] at hx
      rw [← hx]
      simp [List.getD, List.getElem?_eq_getElem hi']
    · cases hx
theorem open_costs {r : Reach} {b0 : Nat} {t e : TypeId} {v : Value} {d : DataW H} {p : List MemPlace} (f0 f1 : Field) (hs : P.underlying t = some (.struct #[f0, f1])) (hone : oneCellFields P #[f0, f1] = true) (hC : P.cellsOf t = 2)
    (h0 : P.underlying f0.type = some (.slice e)) (he : P.underlying e = some (.int .i64)) (hc : P.cellsOf e = 1) (h1 : P.underlying f1.type = some (.int .i64)) (hv : Value.okWide P w r b0 t v) (h : DataW.Trod enc P w base spare held t v d p) :
    ∃ (q : Option Addr) (cap : Nat) (ws : List Int) (gap : Int), v = costs q ws.length cap gap ∧ CostsAt (Mv.of w) q ws ∧ (q = none → cap = 0) ∧ (∀ z ∈ ws, (Lit.int .i64 z).wf = true) ∧ (Lit.int .i64 gap).wf = true := by
  obtain ⟨v0, v1, y0, y1, n, rfl, _, _, q0, q1⟩ := open_agg2 hs hone hC hv h
  obtain ⟨q, cap, ws, e0, hcells, hn, hw⟩ := open_sl h0 he hc q0
  obtain ⟨g, e1, _, w1⟩ := DataW.trod_int h1 q1
  simp only [List.cons.injEq, and_true] at e0 e1
  subst e0; subst e1
  exact ⟨q, cap, ws, g, rfl, hcells, hn, hw, w1⟩
theorem open_u16s {r : Reach} {b0 : Nat} {t e : TypeId} {v : Value} {d : DataW H} {p : List MemPlace} (ht : P.underlying t = some (.slice e)) (he : P.underlying e = some (.int .u16)) (hc : P.cellsOf e = 1) (hv : Value.okWide P w r b0 t v) (h : DataW.Trod enc P w base spare held t v d p) :
    ∃ (q : Option Addr) (cap : Nat) (ws : List Int), v = slv q ws.length cap ∧ Cells (Mv.of w) q (ws.map (.int .u16)) ∧ (q = none → cap = 0) ∧ ∀ z ∈ ws, (Lit.int .u16 z).wf = true := by
  obtain ⟨fuel, hf⟩ := h
  obtain ⟨q, cap, ws, e0, hcells, hn, hw⟩ := open_sl ht he hc hf
  have hcs : v.cells.toList = [slv q ws.length cap] := e0
  have : v = slv q ws.length cap := by
    unfold Value.okWide at hv
    rw [ht] at hv
    simp only [] at hv
    cases v with
    | agg l => simp [Cell.okWide, Cell.ok, ht] at hv
    | _ => simpa [Value.cells] using hcs
  exact ⟨q, cap, ws, this, hcells, hn, hw⟩
end
end Go.Proofs.YtpbbnmjkbfbelaaDoor
