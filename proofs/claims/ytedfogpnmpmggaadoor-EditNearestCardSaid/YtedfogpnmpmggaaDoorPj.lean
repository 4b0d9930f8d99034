/- A variable of which it is known that it is there, and no more: for stores beside loads in one region. -/
import Derived.Test.YtedfogpnmpmggaaDoorPi
set_option linter.unusedSimpArgs false
set_option linter.unusedVariables false
namespace Go.Sy
open Go Go.RowKit
/-- A variable in a block of its own. -/
def box (e : TypeId) (v : Value) : Obj := .cells #[v] e (0, 0)
def HW.holds (b : Nat) (e : TypeId) : HW where
  H w := ∃ v, w.heap[b]? = some (box e v)
  own k := k = b
  stab w w' := fun ⟨v, h⟩ _ hk _ _ _ => ⟨v, (hk b rfl).trans h⟩
  inb w k := fun ⟨v, h⟩ hk => by subst hk; exact (Array.getElem?_eq_some_iff.1 h).1
def Cx.unk (c : Cx) (b : Nat) (e : TypeId) : Cx where
  hb := c.hb.sep (HW.holds b e)
  R := c.R
  ok w k o v := fun h hv => c.ok w k o v h.1 hv
  own k o v := fun hv => .inl (c.own k o v hv)
def Mem.del (m : Mem) (b : Nat) : Mem := fun k => if k = b then none else m k
theorem Mem.del_same (m : Mem) (b : Nat) : m.del b b = none := if_pos rfl
theorem Mem.del_other (m : Mem) {b k : Nat} (h : k ≠ b) : m.del b k = m k := if_neg h
section
variable {P : Program} {c : Cx} {L : List Nat} {ρ : Env} {blks : List Blk} {m : Mem} {R : Value → HW → Prop} {Dn : Nat → List U → HW → Prop} {A : List (List U → HW → Prop)}
theorem DenM.good {t : Tree} (h : Good c L m → DenM P R Dn t L ρ c m A) : DenM P R Dn t L ρ c m A := fun g => h g g
theorem DenM.joinC (c2 : Cx) {lvl : Nat} {shs : List Sh} {head : List Blk} {t k : Tree} (I : List U → Mem → Prop) (ht : DenM P R Dn t L ρ c m (A.take lvl ++ [inM c2 I])) (hk : ∀ us m', UsOk shs us → I us m' → DenM P R Dn k L (ρ ++ us) c2 m' A) :
    DenM P R Dn (.join lvl shs head t k) L ρ c m A := fun g => by
  refine ⟨inM c2 I, ht g, ?_⟩
  rintro us _ hus ⟨m', hm', rfl, hI⟩ ⟨w, hw⟩
  exact hk us m' hus hI ⟨hm', fun b hb' => not_own (hw.good b hb'), hw.nd⟩
theorem DenM.againU {lvl nb : Nat} {shs : List Sh} {vals : List SV} {I : List U → Mem → Prop} {b : Nat} {e : TypeId} {v : Value} (hA : A[lvl]? = some (inM (c.unk b e) I)) (hb : m b = some (box e v)) (hI : I (Sh.uss L ρ shs vals) (m.del b)) : DenM P R Dn (.again lvl nb shs vals blks) L ρ c m A := fun g => by
  refine ⟨(c.unk b e).hw (m.del b), fun w hw => ⟨⟨hw.hold.1, v, hw.hold.2 b _ hb⟩, fun k o hk => ?_⟩, fun k hk => ?_, _, hA, _, fun k hk ho => ?_, rfl, hI⟩
  · by_cases e' : k = b
    · rw [e', Mem.del_same] at hk; cases hk
    · rw [Mem.del_other _ e'] at hk; exact hw.hold.2 k o hk
  · rcases hk with (hk | hk) | hk
    · exact .inl (.inl hk)
    · refine .inl (.inr ?_)
      have hk : k = b := hk
      subst hk
      show m k ≠ none
      rw [hb]; simp
    · refine .inl (.inr ?_)
      by_cases e' : k = b
      · rw [e']; show m b ≠ none; rw [hb]; simp
      · show m k ≠ none
        have hk : m.del b k ≠ none := hk
        rwa [Mem.del_other _ e'] at hk
  · rcases ho with ho | ho
    · by_cases e' : k = b
      · rw [e', Mem.del_same] at hk; exact hk rfl
      · rw [Mem.del_other _ e'] at hk; exact g.mem k hk ho
    · have ho : k = b := ho
      rw [ho, Mem.del_same] at hk; exact hk rfl
/-- A store into it: what it holds is known again. -/
theorem DenM.storeU {p : Bool} {i : Nat} {x : SV} {k : Tree} {b : Nat} {e : TypeId} (hcb : ¬ c.hb.own b) (hp : ρ.ptr i = some ⟨b, 0, none⟩) (hk : m b = none → DenM P R Dn k L ρ c (m.upd b (box e (x.den L ρ))) A) : DenM P R Dn (.store p i (.lit 0) [x] blks k) L ρ (c.unk b e) m A := fun g w hw => by
  have hbo : (c.unk b e).hb.own b := .inr rfl
  have hmb : m b = none := by
    cases h : m b with
    | none => rfl
    | some o => exact absurd hbo (g.mem b (by rw [h]; simp))
  have hbL : b ∉ L := fun h => (g.blk b h).2 hbo
  obtain ⟨v, hv⟩ := hw.hold.1.2
  have hgood : Good c L (m.upd b (box e (x.den L ρ))) := ⟨fun k hk ho => by
    by_cases e' : k = b
    · exact hcb (e' ▸ ho)
    · rw [Mem.upd_other _ _ e'] at hk; exact g.mem k hk (.inl ho), fun k hk => ⟨by rw [Mem.upd_other _ _ (fun (e' : k = b) => hbL (e' ▸ hk))]; exact (g.blk k hk).1, fun ho => (g.blk k hk).2 (.inl ho)⟩, g.nd⟩
  refine ⟨b, 0, #[v], e, by simp [atAddr, hp, IT.eval, addr_zero], hv, by simp, .inl (.inr rfl), c.hw (m.upd b (box e (x.den L ρ))), fun k hk => ?_, fun _ w2 hw2 => ?_, ⟨?_, fun k o hk => ?_⟩, hk hmb hgood⟩
  · rcases hk with hk | hk
    · exact .inl (.inl hk)
    · by_cases e' : k = b
      · exact .inl (.inr e')
      · exact .inr (by show m k ≠ none; have hk : m.upd b _ k ≠ none := hk; rwa [Mem.upd_other _ _ e'] at hk)
  · refine ⟨hw2.len, hw2.blk, hw2.nd, fun k hk ho => ?_, ⟨hw2.hold.1, x.den L ρ, hw2.hold.2 b _ (Mem.upd_same ..)⟩, fun k o hk => ?_⟩
    · rcases ho with (ho | ho) | ho
      · exact (g.blk k hk).2 (.inl ho)
      · have ho : k = b := ho
        exact hbL (ho ▸ hk)
      · exact ho (g.blk k hk).1
    · have : k ≠ b := fun e' => by rw [e', hmb] at hk; cases hk
      exact hw2.hold.2 k o (by rw [Mem.upd_other _ _ this]; exact hk)
  · exact c.hb.stab w _ hw.hold.1.1 (by simp) (fun k hk => setRow_other _ _ _ _ fun e' => hcb (e' ▸ hk)) rfl rfl rfl
  · unfold Mem.upd at hk
    split at hk
    · rename_i e'
      cases hk
      rw [e', setRow_heap _ _ _ _ _ _ hv]
      simp [box, putAt, SV.dens]
    · rename_i e'
      rw [setRow_other _ _ _ _ e']; exact hw.hold.2 k o hk
end
end Go.Sy
