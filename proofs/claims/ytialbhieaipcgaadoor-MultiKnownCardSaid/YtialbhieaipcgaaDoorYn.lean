/- Chapter 18: the reference's Add; the law of added words. -/
import Derived.Test.YtialbhieaipcgaaDoorYm
import Derived.Test.YtialbhieaipcgaaDoorTcAdds
set_option linter.unusedSimpArgs false
set_option linter.unusedVariables false
namespace Go.Sy
open Go Go.RowKit
theorem Row.any {m m' : Mem} {e : TypeId} {q q' : Option Addr} {cap cap' n n' g : Nat} {xs xs' ys : List Value} (hg : q = some ⟨g, 0, none⟩) (h : Row m e 1 q cap n xs) (h' : Row m' e 1 q cap n ys) (hs : ∀ b, b ≠ g → m' b = m b) (hr : Row m e 1 q' cap' n' xs') : ∃ zs, Row m' e 1 q' cap' n' zs := by
  rcases hr.2 with ⟨h1, h2, h3⟩ | ⟨g2, c2, h1, h2, h3, h4, h5, h6⟩
  · subst h1; subst h2; subst h3
    exact ⟨[], Row.nil ..⟩
  · by_cases e2 : g2 = g
    · subst e2
      rcases h.2 with ⟨k1, _⟩ | ⟨g3, c3, k1, k2, k3, k4, k5, k6⟩
      · rw [k1] at hg; cases hg
      · rw [k1] at hg; cases hg
        rw [k2] at h2; cases h2
        rcases h'.2 with ⟨l1, _⟩ | ⟨g4, c4, l1, l2, l3, l4, l5, l6⟩
        · rw [k1] at l1; cases l1
        · rw [k1] at l1; cases l1
          have hcap : cap' = cap := by omega
          subst hcap
          exact ⟨(c4.toList.take (n' * 1)), ⟨by rw [List.length_take, Array.length_toList, l5]; omega, .inr ⟨_, c4, h1, l2, h3, h4, l5, rfl⟩⟩⟩
    · exact ⟨xs', hr.keep fun b hb _ => by rw [h1] at hb; cases hb; exact hs g2 e2⟩
end Go.Sy
namespace Go.Proofs.YtialbhieaipcgaaDoor
open Go Go.Sy Go.RowKit
end Go.Proofs.YtialbhieaipcgaaDoor
