/- Chapter 18: the reference's rows; the law of checks. -/
import Derived.Test.YtialbhieaipcgaaDoorYc
import Derived.Test.YtialbhieaipcgaaDoorTcChecks
set_option linter.unusedSimpArgs false
set_option linter.unusedVariables false
namespace Go.Sy
open Go Go.RowKit
theorem c3_fresh (ρ : Env) (L : List Nat) (a b d : Int) : SV.dens L (ρ ++ [.i a, .i b, .i d]) (Sh.freshs [.int .i64, .int .u32, .int .u32] ρ.length).1 = [.int .i64 a, .int .u32 b, .int .u32 d] := by
  have e0 := getElem_env ρ [.i a, .i b, .i d] 0
  have e1 := getElem_env ρ [.i a, .i b, .i d] 1
  have e2 := getElem_env ρ [.i a, .i b, .i d] 2
  simp only [Sh.fresh, Sh.freshs, SV.den, SV.dens, IT.eval, Env.int, Nat.add_assoc] at e0 e1 e2 ⊢
  rw [Nat.add_zero] at e0
  rw [e0, e1, e2]
  rfl
theorem DenM.loadCE {P : Program} {c : Cx} {L : List Nat} {ρ : Env} {blks : List Blk} {m : Mem} {R : Value → HW → Prop} {Dn : Nat → List U → HW → Prop} {A : List (List U → HW → Prop)} {i : Nat} {I len : IT} {k : Tree} (l : List CE) (j : Nat) (hj : j < l.length) (hw : Good c L m → Cells (vw c L ρ blks m) (ρ.ptr i) (ccells l)) (hk : DenM P R Dn k L (ρ ++ [.i l[j].1, .i (l[j].2.1 : Int), .i (l[j].2.2 : Int)]) c m A) (hI : I.eval ρ = (j : Int) := by rfl) (hn : len.eval ρ = (l.length : Int) := by rfl) :
    DenM P R Dn (.chk (.pick (.cmp .geq I (.lit 0)) (.pick (.cmp .lss I len) (.some i) (.lit false)) (.lit false)) (.load i (.off I 3 (.lit 0)) [(.int .i64), (.int .u32), (.int .u32)] blks k)) L ρ c m A := by
  refine .elem [.i l[j].1, .i (l[j].2.1 : Int), .i (l[j].2.2 : Int)] (ccells l) j l.length hI hn hj rfl hw (by rw [ccells_len]; omega) (fun q v hv => ?_) hk
  rw [c3_fresh] at hv
  have hq : q < 3 := by
    rcases Nat.lt_or_ge q 3 with h | h
    · exact h
    · rw [List.getElem?_eq_none (by simpa using h)] at hv; cases hv
  rw [ccells_at l hj q hq]
  exact hv
end Go.Sy
namespace Go.Proofs.YtialbhieaipcgaaDoor
open Go Go.Sy Go.RowKit
theorem crow_at (ts : List CR) (j : Nat) (h : j < ts.length) : (ts.map CR.v)[j]? = some (slv ts[j].p ts[j].l.length ts[j].cap) := by rw [List.getElem?_map, List.getElem?_eq_getElem h]; rfl
end Go.Proofs.YtialbhieaipcgaaDoor
