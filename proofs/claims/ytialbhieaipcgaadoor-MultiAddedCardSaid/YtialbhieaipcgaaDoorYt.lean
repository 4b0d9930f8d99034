/- Chapter 18: without the added word the old alignment is left; adding is not dearer than simple ways. -/
import Derived.Test.YtialbhieaipcgaaDoorYp
import Derived.Test.YtialbhieaipcgaaDoorYn
import Derived.Test.YtialbhieaipcgaaDoorYs
import Derived.Test.YtialbhieaipcgaaDoorTcAdded
set_option linter.unusedSimpArgs false
set_option linter.unusedVariables false
namespace Go.Proofs.YtialbhieaipcgaaDoor
open Go Go.Sy Go.RowKit
section
variable {c : Cx} {L : List Nat} {ρ : Env} {blks : List Blk} {m : Mem} {R : Value → HW → Prop} {Dn : Nat → List U → HW → Prop} {A : List (List U → HW → Prop)}
/-- A word appended to a copy of words; what else is there stays. -/
theorem _root_.Go.Sy.DenM.appendWs {aO : Array Operand} {ty : TypeId} {sv xv : SV} {k : Tree} {q qx : Option Addr} {cap b0 : Nat} (l : List WD) (x : WD) (hl : l.length < 2 ^ 30)
    (h1 : l.length ≠ 0 → Row m 46 1 q cap l.length (l.map WD.v)) (h0 : l.length = 0 → q = some ⟨b0, 0, none⟩ ∧ cap = 0) (hx : Good c L m → Cells (vw c L ρ blks m) qx [x.v]) (hqx : qx ≠ none)
    (hk : ∀ q' cap' m', Row m' 46 1 q' cap' (l.length + 1) ((l ++ [x]).map WD.v) → (∀ b, (l.length ≠ 0 → q ≠ some ⟨b, 0, none⟩) → m b ≠ none → m' b = m b) → DenM Tryd.prog R Dn k L (ρ ++ [.p q', .i (l.length + 1 : Nat), .i (cap' : Nat)]) c m' A)
    (hv : sv.den L ρ = slv q l.length cap := by rfl) (hxv : xv.den L ρ = slv qx 1 1 := by rfl) (hs : scBlks ρ.length blks = true := by rfl) :
    DenM Tryd.prog R Dn (.ext false ⟨.call ⟨.builtin .append, aO, #[22, 22]⟩, ty, [sv, xv]⟩ .sl blks k) L ρ c m A := by
  have hone : ∀ u ∈ [x.v], u.oneCell' = true := by simp [WD.v, slv, Value.oneCell']
  have hmap : (l ++ [x]).map WD.v = l.map WD.v ++ [x.v] := by rw [List.map_append]; rfl
  rw [hmap] at hk
  exact .appendE (b0 := b0) (n := l.length) (kx := 1) elW h1 (fun hn => ⟨(h0 hn).1, (h0 hn).2, by rw [List.length_eq_zero_iff.1 hn]; rfl⟩) (by decide) hx rfl hone (fun h => absurd h hqx) (by simp [maxLen]; omega) (by omega) (fun q' cap' m' a1 a2 => hk q' cap' m' a1 a2) hv hxv hs
/-- A number put behind a copy of numbers. -/
theorem snocI {aO aO' : Array Operand} {ty ty' : TypeId} {sv xv sv2 : SV} {blks2 : List Blk} {k : Tree} {b0 j1 : Nat} {qx : Option Addr} {capx : Nat} (xs : List Int) (x : Int)
    (hx : Good c L m → Cells (vw c L ρ blks m) qx (intsL xs)) (hnx : qx = none → capx = 0) (hlen : xs.length < 2 ^ 40) (hj1 : j1 = L.length)
    (hy : ∀ {b1 : Nat} {ρ' : Env} {m' : Mem}, (∃ q1 c1, ρ' = ρ ++ [.p q1, .i (xs.length : Nat), .i (c1 : Nat)]) → Good c (L ++ [b1]) m' → Cells (vw c (L ++ [b1]) ρ' blks2 m') (some ⟨b1, 0, none⟩) [.int .i64 x])
    (hk : ∀ q1 c1 b1 q2 c2 m2, m.le m2 → RowI m2 q2 c2 (xs ++ [x]) → DenM Tryd.prog R Dn k (L ++ [b1]) (ρ ++ [.p q1, .i (xs.length : Nat), .i (c1 : Nat)] ++ [.p q2, .i ((xs ++ [x]).length : Nat), .i (c2 : Nat)]) c m2 A)
    (hxv : xv.den L ρ = slv qx xs.length capx) (hv2 : ∀ b1 q (c1 : Nat), sv2.den (L ++ [b1]) (ρ ++ [.p q, .i (xs.length : Nat), .i (c1 : Nat)]) = slv q xs.length c1)
    (hv : sv.den L ρ = slv (some ⟨b0, 0, none⟩) 0 0 := by rfl) (hs : scBlks ρ.length blks = true := by rfl) (hs2 : scBlks (ρ.length + 3) blks2 = true := by rfl) :
    DenM Tryd.prog R Dn (.ext false ⟨.call ⟨.builtin .append, aO, #[49, 49]⟩, ty, [sv, xv]⟩ .sl blks (.alloc (.ext false ⟨.call ⟨.builtin .append, aO', #[49, 49]⟩, ty', [sv2, .slc j1 0 1 1]⟩ .sl blks2 k))) L ρ c m A := by
  refine .appendLitF (b0 := b0) (qx := qx) (kx := xs.length) (capx := capx) (news := intsL xs) elI hx (by rw [intsL_len, Nat.mul_one]) (intsL_one _) hnx (by simp [maxLen]; omega) (by omega) (fun q1 c1 m1 hr1 h01 hle1 hf1 => ?_) hv hxv hs
  have hm1 : m.le m1 := fun b o hb => by rw [hle1 b (by rw [hb]; simp), hb]
  have hsc : scBlks (ρ ++ [U.p q1, .i (xs.length : Nat), .i (c1 : Nat)]).length blks2 = true := by rw [List.length_append]; exact hs2
  refine .alloc fun b1 => .appendE (b0 := b0) (q := q1) (cap := c1) (n := xs.length) (qx := some ⟨b1, 0, none⟩) (kx := 1) (capx := 1) (xs := intsL xs) (news := [.int .i64 x]) elI hr1 (fun h => ⟨(h01 h).1, (h01 h).2, by rw [List.length_eq_zero_iff.1 h]; rfl⟩) (by decide) (fun g => hy ⟨q1, c1, rfl⟩ g) rfl (by simp [Value.oneCell']) (fun h => by cases h) (by simp [maxLen]; omega) (by omega) (fun q2 c2 m2 hr2 hk2 => ?_) (hv2 _ _ _) ?_ hsc
  · have hR : Row m2 3 1 q2 c2 (xs ++ [x]).length (intsL (xs ++ [x])) := by
      rw [List.length_append]; unfold intsL at hr2 ⊢; rw [List.map_append]; exact hr2
    have h9 := hk q1 c1 b1 q2 c2 m2 (fun b o hb => ?_) (.of hR)
    · rw [List.length_append] at h9; exact h9
    rw [hk2 b (fun hne he => by obtain ⟨g, h1, h2⟩ := hf1 hne; rw [h1] at he; cases he; rw [h2] at hb; cases hb) (by rw [hm1 b o hb]; simp)]
    exact hm1 b o hb
  · subst hj1
    show Value.slice (some ⟨(L ++ [b1]).getD L.length 0, 0, none⟩) 1 1 = _
    rw [show (L ++ [b1]).getD L.length 0 = b1 by simp [List.getD]]
    rfl
end
/-- Two tables side by side. -/
def ApartQ (q q' : Option Addr) : Prop := ∀ g, q = some ⟨g, 0, none⟩ → q' ≠ some ⟨g, 0, none⟩
theorem ApartQ.symm {q q' : Option Addr} (h : ApartQ q q') : ApartQ q' q := fun g h1 h2 => h g h2 h1
theorem ApartQ.next {m : Mem} {q q' qo : Option Addr} {e : TypeId} {s cap n : Nat} {xs : List Value} (h : ApartQ q qo) (ho : Row m e s qo cap n xs) (hq : q' = q ∨ ∃ g, q' = some ⟨g, 0, none⟩ ∧ m g = none) : ApartQ q' qo := fun g h1 h2 => by
  rcases hq with rfl | ⟨g', h3, h4⟩
  · exact h g h1 h2
  · rw [h3] at h1; cases h1
    rcases ho.2 with ⟨k1, _⟩ | ⟨g2, _, k1, k2, _⟩
    · rw [k1] at h2; cases h2
    · rw [k1] at h2; cases h2
      rw [h4] at k2; cases k2
theorem TabR.other {m m' : Mem} {q qo : Option Addr} {cq co kx : Nat} {rs ro : List IR} (h : TabR m q cq rs) (ho : TabR m qo co ro) (ha : ApartQ qo q) (hk : ∀ b, ((∃ o, qo = some ⟨b, o, none⟩) → co < ro.length + kx) → m b ≠ none → m' b = m b) : TabR m' q cq rs :=
  ⟨h.out.keep fun b hb hbm => hk b (fun ⟨o, h1⟩ => by
    exfalso
    rcases ho.out.2 with ⟨k1, _⟩ | ⟨g2, _, k1, _⟩
    · rw [k1] at h1; cases h1
    · rw [k1] at h1; cases h1
      exact ha _ k1 hb) hbm, fun r hr => (h.rows r hr).keepA ho.out hk⟩
theorem one_good {x : WD} {a b : Int} (h : goodW a b ([x].map (·.w)) = true) : (x.w.length : Int) ≤ b ∧ checkW x.w = 0 := (goodW_of h).2 x.w (List.mem_map_of_mem (List.mem_singleton.2 rfl))
end Go.Proofs.YtialbhieaipcgaaDoor
