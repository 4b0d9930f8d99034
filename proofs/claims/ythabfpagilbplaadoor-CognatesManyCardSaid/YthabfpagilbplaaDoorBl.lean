/- Chapter 19: what the outright laws take: spelt, costs, labels, finer. -/
import Derived.Test.YthabfpagilbplaaDoorBk
import Derived.Test.YthabfpagilbplaaDoorTcFiner
set_option linter.unusedSimpArgs false
set_option linter.unusedVariables false
/- Chapter 19: what the outright laws take: spelt, costs, labels, finer. -/
namespace Go.Sy
open Go Go.RowKit
theorem Good.mv {c : Cx} {L : List Nat} {ρ : Env} {blks : List Blk} {m : Mem} (g : Good c L m) : m.mv.le (vw c L ρ blks m) := by
  refine Mv.le.trans ⟨fun b o v hv => ?_, fun b es hv => ?_⟩ g.on
  · unfold Mem.mv at hv
    rw [Mv.on_c] at hv ⊢
    cases hb : m b with
    | none => rw [hb] at hv; cases hv
    | some x => rw [hb] at hv; cases x <;> exact hv
  · unfold Mem.mv at hv
    rw [Mv.on_m] at hv ⊢
    cases hb : m b with
    | none => rw [hb] at hv; cases hv
    | some x => rw [hb] at hv; cases x <;> exact hv
end Go.Sy
namespace Go.Proofs.YthabfpagilbplaaDoor
open Go Go.Sy Go.RowKit
structure Rok8 (r : IR) : Prop where
  cap : r.l.length ≤ r.cap
  len : r.l.length < 2 ^ 63
  el : ∀ x ∈ r.l, 0 ≤ x ∧ x < 256
structure SpF (f : FD) : Prop where
  ok : Wok f.w.w
  check : checkW f.w.w = 0
  none : f.has = false → f.w.w = []
  len : f.w.w.length ≤ 10
  wok : f.w.ok
theorem elF : El Tryd.prog 22 50 2 32 := El.of (by kernel_rfl)
structure SpM (m : Mem) (q : Option Addr) (cq : Nat) (fs : List FD) : Prop where
  out : Row m 50 2 q cq fs.length (fcells fs)
  inn : ∀ f ∈ fs, Row m 56 2 f.w.p f.w.cap f.w.w.length (wcells f.w.w)
end Go.Proofs.YthabfpagilbplaaDoor
/- Chapter 19: the laws' labels and finer; single linkage is coarser, plainly. -/
namespace Go.Sy
open Go Go.RowKit
end Go.Sy
namespace Go.Proofs.YthabfpagilbplaaDoor
open Go Go.Sy Go.RowKit
end Go.Proofs.YthabfpagilbplaaDoor
/- Chapter 19: the law Finer. -/
namespace Go.Sy
open Go Go.RowKit
def Mem.le (m m' : Mem) : Prop := ∀ b o, m b = some o → m' b = some o
theorem Mem.le.keep {m m' : Mem} (h : m.le m') {b : Nat} (hb : m b ≠ none) : m' b = m b := by
  cases e : m b with
  | none => exact absurd e hb
  | some o => exact h b o e
theorem Mem.le.mv {m m' : Mem} (h : m.le m') : m.mv.le m'.mv := by
  refine ⟨fun b o v hv => ?_, fun b es hv => ?_⟩
  · unfold Mem.mv at hv ⊢
    rw [Mv.on_c] at hv ⊢
    cases hb : m b with
    | none => rw [hb] at hv; cases hv
    | some x => rw [h b x hb]; rw [hb] at hv; exact hv
  · unfold Mem.mv at hv ⊢
    rw [Mv.on_m] at hv ⊢
    cases hb : m b with
    | none => rw [hb] at hv; cases hv
    | some x => rw [h b x hb]; rw [hb] at hv; exact hv
theorem Row.le {m m' : Mem} {e : TypeId} {size : Nat} {q : Option Addr} {cap n : Nat} {xs : List Value} (h : Row m e size q cap n xs) (hle : m.le m') : Row m' e size q cap n xs := h.keep fun _ _ hb => hle.keep hb
section
variable {P : Program} {c : Cx} {L : List Nat} {ρ : Env} {blks : List Blk} {m : Mem} {R : Value → HW → Prop} {Dn : Nat → List U → HW → Prop} {A : List (List U → HW → Prop)}
theorem DenM.callE {p : Bool} {f : FuncId} {args : List SV} {sh : Sh} {k : Tree} {vs : List Value} {pre : Mv → Prop} {Q : Value → Mem → Mv → Prop} (hc : FnM P f vs pre Q) (hpre : Good c L m → pre (vw c L ρ blks m))
    (hk : ∀ v mq m', m.le m' → mq.le m' → Q v mq ((vw c L ρ blks m).on mq) → ∃ us, UOk sh us ∧ v = (sh.fresh ρ.length).1.den L (ρ ++ us) ∧ DenM P R Dn k L (ρ ++ us) c m' A) (hargs : SV.dens L ρ args = vs := by rfl) (hs : scBlks ρ.length blks = true := by rfl) : DenM P R Dn (.call p f args sh blks k) L ρ c m A :=
  .callM hc hargs hs hpre fun v mq hfr hQ => hk v mq _ (fun b o hb => by unfold Mem.join; rw [hb]) (fun b o hb => by unfold Mem.join; rw [(hfr b (by rw [hb]; simp)).1, hb]) hQ
end
end Go.Sy
namespace Go.Proofs.YthabfpagilbplaaDoor
open Go Go.Sy Go.RowKit
theorem RowI.le' {m m' : Mem} {q : Option Addr} {cq : Nat} {l : List Int} (h : RowI m q cq l) (hle : m.le m') : RowI m' q cq l := h.keep fun _ _ hb => hle.keep hb
end Go.Proofs.YthabfpagilbplaaDoor
namespace Go.Sy
open Go Go.RowKit Go.Proofs.YthabfpagilbplaaDoor
theorem DenM.callI {P : Program} {c : Cx} {L : List Nat} {ρ : Env} {blks : List Blk} {m : Mem} {R : Value → HW → Prop} {Dn : Nat → List U → HW → Prop} {A : List (List U → HW → Prop)} {p : Bool} {f : FuncId} {args : List SV} {k : Tree} {vs : List Value} {pre : Mv → Prop} {x : List Int} {e : Int}
    (hc : FnM P f vs pre fun v mq _ => ∃ q cq, v = .tuple #[slv q x.length cq, .int .i64 e] ∧ RowI mq q cq x) (hpre : Go.Sy.Good c L m → pre (vw c L ρ blks m))
    (hk : ∀ q cq m', m.le m' → RowI m' q cq x → DenM P R Dn k L (ρ ++ [.p q, .i x.length, .i cq, .i e]) c m' A) (hargs : SV.dens L ρ args = vs := by rfl) (hs : scBlks ρ.length blks = true := by rfl) : DenM P R Dn (.call p f args (.tup [.sl, .int .i64]) blks k) L ρ c m A := by
  refine .callE hc hpre ?_ hargs hs
  rintro v mq m' h1 h2 ⟨q, cq, rfl, hr⟩
  exact ⟨[.p q, .i (x.length : Nat), .i cq, .i e], uOk_of rfl, (tab_fresh _ _ _ _ _ _).symm, hk q cq m' h1 (hr.le' h2)⟩
end Go.Sy
namespace Go.Proofs.YthabfpagilbplaaDoor
open Go Go.Sy Go.RowKit
end Go.Proofs.YthabfpagilbplaaDoor
/- Chapter 19: limits, plainly; words compared. -/
namespace Go.Sy
open Go Go.RowKit
section
variable {P : Program} {c : Cx} {L : List Nat} {ρ : Env} {blks : List Blk} {m : Mem} {R : Value → HW → Prop} {Dn : Nat → List U → HW → Prop} {A : List (List U → HW → Prop)}
end
end Go.Sy
namespace Go.Proofs.YthabfpagilbplaaDoor
open Go Go.Sy Go.RowKit
/-! All words in one class. -/
end Go.Proofs.YthabfpagilbplaaDoor
