/- Chapter 19: Table. -/
import Derived.Test.YthabfpagilbplaaDoorRd
set_option linter.unusedSimpArgs false
set_option linter.unusedVariables false
namespace Go.Proofs.YthabfpagilbplaaDoor
open Go Go.Sy Go.RowKit
def headE (es : List ED) : Nat := match es with | [] => 0 | x :: _ => x.l.length
def oddE (n : Nat) (x : ED) : Bool := decide (x.l.length ≠ n) || x.l.any blankF
def wordsT : List ED → Int
  | [] => 0
  | x :: t => if checkL (x.l.map (·.w.w)) ≠ 0 then checkL (x.l.map (·.w.w)) else wordsT t
def tableE (ws : List Int) (gap : Int) (es : List ED) (N D : Int) : List (List Int) × Int :=
  if checkC ws gap ≠ 0 then ([], 2) else if es.length > 256 ∨ es.any longE = true then ([], 12) else if es.any (oddE (headE es)) = true then ([], 2) else if wordsT es ≠ 0 then ([], wordsT es) else if limB N D = true then (es.map fun x => (labelsE ws gap x.l N D).1, 0) else ([], 2)
theorem wordsT_at {es : List ED} {j : Nat} (hj : j < es.length) (h : ∀ i (hi : i < es.length), i < j → checkL (es[i].l.map (·.w.w)) = 0) (hb : checkL (es[j].l.map (·.w.w)) ≠ 0) : wordsT es = checkL (es[j].l.map (·.w.w)) := by
  induction es generalizing j with
  | nil => simp at hj
  | cons x t ih =>
    cases j with
    | zero => simp only [wordsT, List.getElem_cons_zero] at *; rw [if_pos hb]
    | succ j =>
      have h0 := h 0 (by simp) (by omega)
      simp only [List.getElem_cons_zero] at h0
      simp only [wordsT, List.getElem_cons_succ] at *
      rw [if_neg (by simp [h0])]
      exact ih (by simpa using hj) (fun i hi hij => by have := h (i + 1) (by simp; omega) (by omega); simpa using this) hb
theorem wordsT_none {es : List ED} (h : ∀ i (hi : i < es.length), checkL (es[i].l.map (·.w.w)) = 0) : wordsT es = 0 := by
  induction es with
  | nil => rfl
  | cons x t ih =>
    have h0 := h 0 (by simp)
    simp only [List.getElem_cons_zero] at h0
    simp only [wordsT]
    rw [if_neg (by simp [h0])]
    exact ih fun i hi => by have := h (i + 1) (by simp; omega); simpa using this
theorem ehead_at (es : List ED) (h : 0 < es.length) : es[0].l.length = headE es := by
  match es, h with
  | x :: _, _ => rfl
/-- Rows of numbers in memory of one's own, to be read. -/
structure TabI (m : Mem) (q : Option Addr) (cq : Nat) (rs : List IR) : Prop where
  row : rs ≠ [] → Row m 30 1 q cq rs.length (rs.map IR.v)
  rows : ∀ r ∈ rs, RowI m r.p r.cap r.l
  nil : q = none → cq = 0
  le : rs.length ≤ cq
theorem TabI.joinL {m mq : Mem} {q : Option Addr} {cq : Nat} {rs : List IR} (h : TabI m q cq rs) : TabI (m.join mq) q cq rs := ⟨fun hn => (h.row hn).keep fun g _ hg => join_old hg, fun r hr => (h.rows r hr).joinL, h.nil, h.le⟩
theorem TabI.joinR {m mq : Mem} {q : Option Addr} {cq : Nat} {rs : List IR} (h : TabI mq q cq rs) (hf : ∀ b, mq b ≠ none → m b = none) : TabI (m.join mq) q cq rs := ⟨fun hn => (h.row hn).keep fun g _ hg => join_new (hf g hg), fun r hr => (h.rows r hr).joinR hf, h.nil, h.le⟩
theorem TabI.empty (m : Mem) : TabI m none 0 [] := ⟨fun h => absurd rfl h, (by intro r hr; cases hr), fun _ => rfl, Nat.le_refl _⟩
theorem TabI.reads {m : Mem} {q : Option Addr} {cq : Nat} {rs : List IR} (h : TabI m q cq rs) {c : Cx} {L : List Nat} {ρ : Env} {blks : List Blk} (g : Go.Sy.Good c L m) : RowsAt (vw c L ρ blks m) q rs := by
  refine ⟨?_, fun r hr => (h.rows r hr).reads g⟩
  by_cases hl : rs = []
  · subst hl; intro i x hx; simp at hx
  · exact (h.row hl).reads g
end Go.Proofs.YthabfpagilbplaaDoor
