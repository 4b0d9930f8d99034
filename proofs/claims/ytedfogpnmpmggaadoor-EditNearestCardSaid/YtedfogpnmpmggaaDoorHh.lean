/- EditNearest, with the list as an argument is opened. -/
import Derived.Test.YtedfogpnmpmggaaDoorHg
import Derived.Test.YtedfogpnmpmggaaDoorWd
set_option linter.unusedSimpArgs false
set_option linter.unusedVariables false
namespace Go.Proofs.YtedfogpnmpmggaaDoor
open Go Go.Sy Go.RowKit
theorem l_EditNearest' (px pw : Option Addr) (cx cw : Nat) (x : List (Int × Int)) (q : SL (SL (Int × Int))) (ws : List Int) (g : Int) (hx : U8ok x) (hl : ∀ s ∈ q.l, U8ok s.l) (hw : ∀ w ∈ ws, (Lit.int .u16 w).wf = true) (hg : (Lit.int .u16 g).wf = true) :
    RetP Tryd.prog n_law17_EditNearest [slv px x.length cx, q.v, slv pw ws.length cw, .int .u16 g] (fun R => Cells R px (bcells x) ∧ (Cells R q.p (q.l.flatMap fun s => [s.v]) ∧ ∀ s ∈ q.l, Cells R s.p (bcells s.l)) ∧ Cells R pw (ws.map (.int .u16)) ∧ TabOk R) (.bool true) := by
  have h := l_EditNearest px q.p pw cx q.cap cw x (q.l.map fun s => (s.p, s.cap, s.l)) ws g hx (fun s hs => by
    obtain ⟨s', hs', rfl⟩ := List.mem_map.1 hs
    exact hl s' hs') hw hg
  rw [List.length_map, List.map_map] at h
  simp only [List.forall_mem_map] at h
  simp only [flatMap_one]
  exact h
end Go.Proofs.YtedfogpnmpmggaaDoor
