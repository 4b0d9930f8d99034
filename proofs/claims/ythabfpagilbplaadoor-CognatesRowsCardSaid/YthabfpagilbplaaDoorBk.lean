/- append beside a read of another block. -/
import Derived.Test.YthabfpagilbplaaDoorBj
import Derived.Test.YthabfpagilbplaaDoorTcSets
import Derived.Test.YthabfpagilbplaaDoorTj
import Derived.Test.YthabfpagilbplaaDoorTcClasses
set_option linter.unusedSimpArgs false
set_option linter.unusedVariables false
/- append beside a read of another block. -/
namespace Go.Sy
open Go Go.RowKit
section
variable {P : Program} {c : Cx} {L : List Nat} {ρ : Env} {blks : List Blk} {m : Mem} {R : Value → HW → Prop} {Dn : Nat → List U → HW → Prop} {A : List (List U → HW → Prop)}
end
end Go.Sy
/- The sets of labels, plainly; tables whose rows grow. -/
namespace Go.Sy
open Go Go.RowKit
/-- A row is appended. -/
theorem Tab.push {m m' : Mem} {eo ei : TypeId} {kd : IntKind} {q q' : Option Addr} {cap cap' : Nat} {rs : List RD} (h : Tab m eo ei kd q cap rs) {r : RD} (hr : Row m ei 1 r.p r.cap r.v.length (r.v.map (.int kd))) (hap : ∀ x ∈ rs, ∀ b, x.p = some ⟨b, 0, none⟩ → r.p ≠ some ⟨b, 0, none⟩)
    (ho : Row m' eo 1 q' cap' (rs.length + 1) (rs.map RD.s ++ [r.s])) (hk : ∀ b, ((∃ o, q = some ⟨b, o, none⟩) → cap < rs.length + 1) → m b ≠ none → m' b = m b) : Tab m' eo ei kd q' cap' (rs ++ [r]) := by
  refine ⟨by rw [List.length_append, List.map_append]; exact ho, fun x hx => ?_, fun i k hi hk b hne hp => ?_, h.ne⟩
  · have hR : Row m ei 1 x.p x.cap x.v.length (x.v.map (.int kd)) := by
      rcases List.mem_append.1 hx with hx | hx
      · exact h.inn x hx
      · simp at hx; subst hx; exact hr
    exact hR.keepA h.out (fun e => h.ne e.symm) hk
  · rw [List.length_append, List.length_cons, List.length_nil] at hi hk
    rw [List.getElem_append] at hp ⊢
    split at hp
    · rename_i hi'
      split
      · exact h.apart i k hi' (by assumption) b hne hp
      · simpa using hap _ (List.getElem_mem hi') b hp
    · split
      · rename_i hk'
        intro h2
        exact hap _ (List.getElem_mem hk') b h2 (by simpa using hp)
      · omega
end Go.Sy
namespace Go.Proofs.YthabfpagilbplaaDoor
open Go Go.Sy Go.RowKit
end Go.Proofs.YthabfpagilbplaaDoor
/- Chapter 19: Sets, walked; the law Sets. -/
namespace Go.Proofs.YthabfpagilbplaaDoor
open Go Go.Sy Go.RowKit
end Go.Proofs.YthabfpagilbplaaDoor
/- Chapter 19: the law Classes. -/
namespace Go.Proofs.YthabfpagilbplaaDoor
open Go Go.Sy Go.RowKit
/-! What the sets are. -/
end Go.Proofs.YthabfpagilbplaaDoor
/- Chapter 19: the law Classes, walked. -/
namespace Go.Sy
open Go Go.RowKit
section
variable {P : Program} {c : Cx} {L : List Nat} {ρ : Env} {blks : List Blk} {m : Mem} {R : Value → HW → Prop} {Dn : Nat → List U → HW → Prop} {A : List (List U → HW → Prop)}
/-- An element of a slice's beginning. -/
theorem DenM.elemM {i : Nat} {I N C : IT} {s : Sh} {k : Tree} (v : Value) (xs : List Value) (j n : Nat) (hI : I.eval ρ = (j : Int)) (hn : N.eval ρ = (n : Int)) (hj : j < n) (hc : Good c L m → Cells (vw c L ρ blks m) (ρ.ptr i) xs) (hx : xs[j]? = some v)
    (hk : DenM P R Dn k L (ρ ++ letU v) c m A) (hus : Sh.eats [s] (letU v) = some [] := by rfl) (hv : SV.dens L (ρ ++ letU v) (Sh.freshs [s] ρ.length).1 = [v] := by rfl) :
    DenM P R Dn (.chk (.pick (.cmp .geq (.ifeq C (.lit 0) (.lit 0) (.lit 0)) (.lit 0)) (.pick (.cmp .geq I (.lit 0)) (.pick (.cmp .lss I N) (.some i) (.lit false)) (.lit false)) (.lit false)) (.load i (.off I 1 (.ifeq C (.lit 0) (.lit 0) (.lit 0))) [s] blks k)) L ρ c m A := fun g => by
  obtain ⟨b, o, hpe⟩ := (hc g).some (List.getElem?_eq_some_iff.1 hx).1
  refine (DenM.chk ?_ (DenM.load1 v (ρ.ptr i) xs j rfl ?_ hc hx hk hus hv)) g
  · simp only [BT.eval, IT.eval, hI, hn, hpe, cm, pick_and]
    simp; omega
  · simp only [IT.eval, hI]; by_cases h : IT.eval ρ C = 0 <;> simp [h]
theorem DenM.loadSlM {i : Nat} {I N C : IT} {k : Tree} (xs : List Value) (j n : Nat) (q : Option Addr) (kn cap : Nat) (hI : I.eval ρ = (j : Int)) (hn : N.eval ρ = (n : Int)) (hj : j < n) (hx : xs[j]? = some (slv q kn cap)) (hw : Good c L m → Cells (vw c L ρ blks m) (ρ.ptr i) xs) (hk : DenM P R Dn k L (ρ ++ [.p q, .i kn, .i cap]) c m A) :
    DenM P R Dn (.chk (.pick (.cmp .geq (.ifeq C (.lit 0) (.lit 0) (.lit 0)) (.lit 0)) (.pick (.cmp .geq I (.lit 0)) (.pick (.cmp .lss I N) (.some i) (.lit false)) (.lit false)) (.lit false)) (.load i (.off I 1 (.ifeq C (.lit 0) (.lit 0) (.lit 0))) [.sl] blks k)) L ρ c m A := fun g => by
  obtain ⟨b, o, hpe⟩ := (hw g).some (List.getElem?_eq_some_iff.1 hx).1
  refine (DenM.chk ?_ (DenM.loadSx xs j q kn cap ?_ hx hw hk)) g
  · simp only [BT.eval, IT.eval, hI, hn, hpe, cm, pick_and]
    simp; omega
  · simp only [IT.eval, hI]; by_cases h : IT.eval ρ C = 0 <;> simp [h]
/-- The test ahead of a slice's first element. -/
theorem DenM.chk0 {i : Nat} {len : IT} {k : Tree} {xs : List Value} {n : Nat} (hn : 0 < n) (hc : Good c L m → Cells (vw c L ρ [] m) (ρ.ptr i) xs) (hl : len.eval ρ = (n : Int)) (hx : xs.length = n) (hk : DenM P R Dn k L ρ c m A) : DenM P R Dn (.chk (.pick (.cmp .lss (.lit 0) len) (.some i) (.lit false)) k) L ρ c m A := fun g => by
  obtain ⟨b, o, hpe⟩ := (hc g).some (show 0 < xs.length by omega)
  refine (DenM.chk ?_ hk) g
  simp only [BT.eval, IT.eval, hl, hpe, cm, pick_and]; simp; omega
end
end Go.Sy
namespace Go.Proofs.YthabfpagilbplaaDoor
open Go Go.Sy Go.RowKit
theorem mn_nat (a b : Nat) : (if (b : Int) < (a : Int) then (b : Int) else (a : Int)) = ((min a b : Nat) : Int) := by split <;> omega
end Go.Proofs.YthabfpagilbplaaDoor
