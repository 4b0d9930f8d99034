/- What a law's arguments are, out of what they read as. -/
import Derived.Test.YtpbbnmjkbfbelaaGreatDoorWa
import Derived.Lib.SmallJoins
import Derived.ChangeSlices
import Derived.Test.YtpbbnmjkbfbelaaGreatDoorBa
set_option linter.unusedSimpArgs false
set_option linter.unusedVariables false
namespace Go.Proofs.YtpbbnmjkbfbelaaGreatDoor
open Go Go.Sy Go.ChangeShapes Go.WideShapes Go.ChangeAt Go.WideElems Go.RowKit Go.Joins Go.Deep
section
variable {H : Type} {enc : TypeId × Value → H} {P : Program} {w : World} {base : Nat} {spare : Nat → Bool} {held : Bool}
theorem nat_of_wf32 {n : Int} (h : (Lit.int .u32 n).wf = true) : ∃ m : Nat, n = (m : Int) ∧ m < 2 ^ 32 := by
  simp only [Lit.wf, Bool.and_eq_true, decide_eq_true_eq] at h
  have h1 := h.1
  have h2 := h.2
  have h1' : (0 : Int) ≤ n := h1
  have h2' : n ≤ 4294967295 := h2
  exact ⟨n.toNat, by omega, by omega⟩
theorem spot_none {w : World} {a : Addr} {v : Value} (h : w.cell? a = some v) : a.spot = none := by
  unfold World.cell? at h
  split at h
  · split at h
    · cases h
    · rename_i hs; simpa using hs
  · cases h
theorem open_sl {t e : TypeId} {k : IntKind} {fuel : Nat} {cs : List Value} {x : DataW H × List MemPlace} (ht : P.underlying t = some (.slice e)) (he : P.underlying e = some (.int k)) (hc : P.cellsOf e = 1) (h : DataW.trod enc P w base spare held fuel t cs = some x) :
    ∃ (p : Option Addr) (cap : Nat) (zs : List Int), cs = [slv p zs.length cap] ∧ Cells (Mv.of w) p (zs.map (.int k)) ∧ (p = none → cap = 0) ∧ ∀ z ∈ zs, (Lit.int k z).wf = true := by
  rcases open_ints ht he hc h with ⟨rfl, _⟩ | ⟨a, len, cap, zs, rfl, _, hl, _, hz, _, hcell, hwf⟩
  · exact ⟨none, 0, [], rfl, fun i x hx => by simp at hx, fun _ => rfl, fun z hz => by cases hz⟩
  · have hle : len ≤ zs.length := by rw [hz]; split <;> omega
    refine ⟨some a, cap, zs.take len, by rw [List.length_take, Nat.min_eq_left hle]; rfl, fun i x hx => ?_, fun h => (by cases h), fun z hz => hwf z (List.mem_of_mem_take hz)⟩
    rw [List.getElem?_map, List.getElem?_take] at hx
    split at hx
    · rename_i hi
      have hi' : i < zs.length := by omega
      have h0 := hcell 0 (by omega)
      have hs := spot_none h0
      rw [addr_zero] at hs
      have hci := hcell i hi'
      obtain ⟨b, o, sp⟩ := a
      simp only at hs
      subst hs
      refine ⟨b, o, rfl, ?_⟩
      rw [addr_add] at hci
      show w.cell? ⟨b, o + i, none⟩ = _
      rw [hci]
      rw [List.getElem?_eq_getElem hi'] at hx
      rw [← hx]
      simp [List.getD, List.getElem?_eq_getElem hi']
    · cases hx
end
end Go.Proofs.YtpbbnmjkbfbelaaGreatDoor
