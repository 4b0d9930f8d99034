/- Chapter 18: Refine. -/
import Derived.Test.YtialbhieaipcgaaDoorYj
set_option linter.unusedSimpArgs false
set_option linter.unusedVariables false
namespace Go.Sy
open Go Go.RowKit
theorem wl_32 {W : List (List Snd)} (h : checkL W = 0) : ∀ k, k < W.length → wl W k ≤ 32 := fun k hk => by
  have := words_len h _ (List.getElem_mem hk)
  rw [wl_getD, getD_at _ _ _ hk]; omega
theorem costE_tot (ws : List Int) (gap : Int) (W : List (List Snd)) (cols : List (List Int)) : Go.Proofs.YtialbhieaipcgaaDoor.totM (columnE ws gap W) cols = costE ws gap W cols := rfl
end Go.Sy
namespace Go.Proofs.YtialbhieaipcgaaDoor
open Go Go.Sy Go.RowKit
theorem tabOk_len {m : Mem} {q : Option Addr} {cq : Nat} {rs : List IR} {W : List (List Snd)} (h : TabI m q cq rs) (hal : isAl W (rs.map (·.l)) = true) (h8 : W.length ≤ 8) : ∀ r ∈ rs, r.ok ∧ r.l.length = W.length := fun r hr => by
  have := (isAl_ent hal r.l (List.mem_map_of_mem hr)).1
  exact ⟨⟨(h.rows r hr).le, (h.rows r hr).nil, by omega⟩, this⟩
end Go.Proofs.YtialbhieaipcgaaDoor
