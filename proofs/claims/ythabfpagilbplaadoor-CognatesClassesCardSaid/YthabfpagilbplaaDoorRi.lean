/- append beside a read of another block. -/
import Derived.Test.YthabfpagilbplaaDoorRg
set_option linter.unusedSimpArgs false
set_option linter.unusedVariables false
namespace Go.Sy
open Go Go.RowKit
section
variable {P : Program} {c : Cx} {L : List Nat} {ρ : Env} {blks : List Blk} {m : Mem} {R : Value → HW → Prop} {Dn : Nat → List U → HW → Prop} {A : List (List U → HW → Prop)}
theorem run_load1 {lt lty : TypeId} {d : TypeDesc} {xo : Operand} {w : World} {b o : Nat} {u : Value} (hu : P.underlying lt = some d) (h1 : sizeT P lt = 1) (ha : isAggT P lt = false) (hc : w.cell? ⟨b, o, none⟩ = some u) :
    (XOp.sem (.load lt xo) lty [.pointer (some ⟨b, o, none⟩)]).run P w = .ok (.value u) w := by
  have := run_loadVar' (P := P) (t := lt) (w := w) (b := b) (o := o) (vs := [u]) hu (by rw [h1]; rfl) (fun _ => rfl) (fun j v hj => by
    match j, hj with
    | 0, hj => cases hj; exact hc)
  rw [ha] at this
  show (do pure (Next.value (← Instr.loadAt lt (.pointer (some ⟨b, o, none⟩)))) : Sem Next).run P w = _
  simp only [Instr.loadAt, Instr.sureAddr, Sem.run_bind, Sem.run_pure, Result.andThen_ok, this]
  rfl
theorem DenM.appendK {aO : Array Operand} {t ty e : TypeId} {size bytes : Nat} {sv xv : SV} {k : Tree} {q qx : Option Addr} {cap n kx capx : Nat} {xs news : List Value} {lt lty : TypeId} {d : TypeDesc} {xo : Operand} {pv : SV} (u : Value) (rb ro : Nat) {cur : Array Value} {re : TypeId} {fr : Nat × Nat}
    (hE : El P t e size bytes) (hR : Row m e size q cap n xs)
    (hx : Good c L m → Cells (vw c L ρ blks m) qx news) (hl : news.length = kx * size) (h1 : ∀ u ∈ news, u.oneCell' = true) (hn : qx = none → capx = 0) (h63 : n + kx ≤ maxLen) (hbytes : (n + kx) * bytes ≤ 140737488355328)
    (hlu : P.underlying lt = some d) (hl1 : sizeT P lt = 1) (hla : isAggT P lt = false) (hrb : m rb = some (.cells cur re fr)) (hro : cur[ro]? = some u) (hq : q ≠ some ⟨rb, 0, none⟩) (hpv : pv.den L ρ = .pointer (some ⟨rb, ro, none⟩))
    (hk : ∀ q' cap' m', Row m' e size q' cap' (n + kx) (xs ++ news) → (∀ b, ((∃ o, q = some ⟨b, o, none⟩) → cap < n + kx) → m b ≠ none → m' b = m b) → (q' = q ∨ ∃ g, q' = some ⟨g, 0, none⟩ ∧ m g = none) → DenM P R Dn k L (ρ ++ [.p q', .i (n + kx : Nat), .i (cap' : Nat)]) c m' A)
    (hv : sv.den L ρ = slv q n cap := by rfl) (hxv : xv.den L ρ = slv qx kx capx := by rfl) (hs : scBlks ρ.length blks = true := by rfl) :
    DenM P R Dn (.exk ⟨.call ⟨.builtin .append, aO, #[t, t]⟩, ty, [sv, xv]⟩ .sl blks ⟨.load lt xo, lty, [pv]⟩ k) L ρ c m A := fun g w hw => by
  have hq0 : ∀ o, q = some ⟨rb, o, none⟩ → False := fun o ho => by
    rcases hR.2 with ⟨h, _⟩ | ⟨g', cur', h, _⟩
    · rw [h] at ho; cases ho
    · rw [h] at ho; cases ho; exact hq h
  obtain ⟨v, w', g0, m', us, hrun, hgr, hg0, hm', hH, _, hus, hv', hkeep, hk'⟩ := append_core (K := fun us m' => m' rb = m rb ∧ DenM P R Dn k L (ρ ++ us) c m' A) hE hR hx hl h1 hn h63 hbytes
    (fun q' cap' m' a1 a2 a3 => ⟨a2 rb (fun ⟨o, ho⟩ => (hq0 o ho).elim) (by rw [hrb]; simp), hk q' cap' m' a1 a2 a3⟩) hv hxv g w hw
  have hl := Left.of (us := us) (.inr hs) g hw hgr hg0 hm' hH
  have cell : ∀ {w2 : World}, w2.heap[rb]? = some (.cells cur re fr) → w2.cell? ⟨rb, ro, none⟩ = some u := fun {w2} h => by simp [World.cell?, h, hro]
  refine ⟨v, w', hrun, us, c.hw m', hus, hv', hl.grow, .inl ⟨u, fun w2 hw2 => ?_, fun w2 hw2 => ?_⟩, hl.wd, hk' hl.good⟩
  · have h := (Wd.hold hw2).2 rb _ hrb
    simp only [SV.dens, hpv]
    exact run_load1 hlu hl1 hla (cell h)
  · have h := (Wd.hold hw2).2 rb _ (hkeep.trans hrb)
    simp only [SV.dens, hpv]
    exact run_load1 hlu hl1 hla (cell h)
end
end Go.Sy
