/- EditLists, with the lists as arguments are opened. -/
import Derived.Test.YtedfogpnmpmggaaDoorHk
import Derived.Test.YtedfogpnmpmggaaDoorWd
set_option linter.unusedSimpArgs false
set_option linter.unusedVariables false
namespace Go.Proofs.YtedfogpnmpmggaaDoor
open Go Go.Sy Go.RowKit
theorem l_EditLists' (w : SL Snd) (q : SL (SL Snd)) (pc : Option Addr) (cc : Nat) (ws : List Int) (gap times : Int) (hw : Wok w.l) (hl : ∀ s ∈ q.l, Wok s.l) :
    RetP Tryd.prog n_law17_EditLists [w.v, q.v, costs pc ws.length cc gap, .int .u8 times] (fun R => Cells R w.p (w.l.flatMap scell) ∧ (Cells R q.p (q.l.flatMap fun s => [s.v]) ∧ ∀ s ∈ q.l, Cells R s.p (s.l.flatMap scell)) ∧ CostsAt R pc ws ∧ TabOk R) (.bool true) := by
  have h := l_EditLists w.wd q.p q.cap (q.l.map SL.wd) pc cc ws gap times hw (fun x hx => by
    obtain ⟨s, hs, rfl⟩ := List.mem_map.1 hx
    exact hl s hs)
  rw [List.length_map] at h
  unfold WordsAt at h
  rw [List.map_map] at h
  simp only [List.forall_mem_map] at h
  simp only [flatMap_one]
  exact h
end Go.Proofs.YtedfogpnmpmggaaDoor
