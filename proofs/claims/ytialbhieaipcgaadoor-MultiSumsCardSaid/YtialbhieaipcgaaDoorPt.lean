/- Calls of function values; iterators that hand on memory; cap; append of zeros. -/
import Derived.Test.YtialbhieaipcgaaDoorBa
import Derived.Lib.AppendZeros
set_option linter.unusedSimpArgs false
set_option linter.unusedVariables false
namespace Go.Sy
open Go Go.RowKit
/-- A function value's contract. -/
def FnV (P : Program) (fv : Value) (args : List Value) (pre : Mv → Prop) (Q : Value → Mem → Mv → Prop) : Prop := ∀ (w : World) (R : Mv), R.le (Mv.of w) → pre R → CallV P fv args.toArray w fun v w' => Below w.heap.size w w' ∧
  ∃ mq : Mem, (∀ b, mq b ≠ none → w.heap.size ≤ b) ∧ (HW.mem mq).H w' ∧ Q v mq (R.on mq)
theorem FnV.of {P : Program} {g : FuncId} {args cap : List Value} {pre : Mv → Prop} {Q : Value → Mem → Mv → Prop} (hg : goodFn P g = true) (h : FnM P g (args ++ cap) pre Q) : FnV P (.func (.func g) #[] cap.toArray) args pre Q := fun w R hR hp => .inl ⟨g, (args ++ cap).toArray, w, by
  simp only [Deferred.ofValue, Sem.run_bind, Sem.run_pure, Result.andThen_ok, invoke, run_callFunc hg]
  congr 2
  apply Array.ext'
  simp, h w R hR hp⟩
theorem FnV.of0 {P : Program} {g : FuncId} {vs : List Value} {pre : Mv → Prop} {Q : Value → Mem → Mv → Prop} (hg : goodFn P g = true) (h : FnM P g vs pre Q) : FnV P (.func (.func g) #[] #[]) vs pre Q := FnV.of (cap := []) hg (by rw [List.append_nil]; exact h)
section
variable {P : Program} {c : Cx} {L : List Nat} {ρ : Env} {blks : List Blk} {m : Mem} {R : Value → HW → Prop} {Dn : Nat → List U → HW → Prop} {A : List (List U → HW → Prop)}
/-- A call of a function value that answers with new memory. -/
theorem DenM.callvM {p : Bool} {f : SV} {args : List SV} {sh : Sh} {k : Tree} {fv : Value} {as : List Value} {pre : Mv → Prop} {Q : Value → Mem → Mv → Prop} (hc : FnV P fv as pre Q) (hf : f.den L ρ = fv) (hargs : SV.dens L ρ args = as) (hs : scBlks ρ.length blks = true) (hpre : Good c L m → pre (vw c L ρ blks m))
    (hk : ∀ v mq, (∀ b, mq b ≠ none → m b = none ∧ b ∉ L ∧ ¬ c.hb.own b) → Q v mq ((vw c L ρ blks m).on mq) → ∃ us, UOk sh us ∧ v = (sh.fresh ρ.length).1.den L (ρ ++ us) ∧ DenM P R Dn k L (ρ ++ us) c (m.join mq) A) : DenM P R Dn (.callv p f args sh blks k) L ρ c m A := fun g w hw => by
  rw [hf, hargs]
  refine CallV.mono ?_ (hc w _ (vw_cell hw) (hpre g))
  rintro v w' ⟨hb, mq, hfr, hmq, hQ⟩
  have hfresh : ∀ b, mq b ≠ none → m b = none ∧ b ∉ L ∧ ¬ c.hb.own b := fun b hb' => by
    have hge := hfr b hb'
    refine ⟨?_, fun hm => by have := hw.lt b hm; omega, fun ho => by have := c.hb.inb w b hw.hold.1 ho; omega⟩
    cases hm : m b with
    | none => rfl
    | some o => have := (HW.mem m).inb w b hw.hold.2 (by show m b ≠ none; rw [hm]; simp); omega
  obtain ⟨us, hus, hv, hd⟩ := hk v mq hfresh hQ
  have hw0 := hw.below hb
  have hgood : Good c L (m.join mq) := ⟨fun b hb' => (join_some hb').elim (g.mem b) fun h => (hfresh b h.2).2.2, fun b hb' => ⟨by
    cases hq : mq b with
    | none => unfold Mem.join; rw [(g.blk b hb').1]; exact hq
    | some o => exact absurd hb' (hfresh b (by rw [hq]; simp)).2.1, (g.blk b hb').2⟩, g.nd⟩
  have hw' : Wd L ρ blks (c.hw (m.join mq)) w' := ⟨hw0.len, hw0.blk, hw0.nd, fun b hb' ho => by
    rcases ho with ho | ho
    · exact (g.blk b hb').2 ho
    · exact ho (hgood.blk b hb').1, hw0.hold.1, fun b o hbo => by
      unfold Mem.join at hbo
      cases hm : m b with
      | some x => rw [hm] at hbo; cases hbo; exact hw0.hold.2 b _ hm
      | none => rw [hm] at hbo; exact hmq b o hbo⟩
  refine ⟨us, c.hw (m.join mq), hus, hv, ⟨hb.size, fun k hk hn => ⟨fun ho => ?_, hb.block k hk⟩, hb.tape, hb.os, hb.output⟩, fun _ w2 hw2 => ?_, (Wd.letters hs).2 hw', hd hgood⟩
  · rcases ho with (ho | ho) | ho
    · exact hn (.inl (.inl ho))
    · rcases join_some ho with ho | ho
      · exact hn (.inl (.inr ho))
      · have := hfr k ho.2; omega
    · exact hn (.inr ho)
  · have h2 := (Wd.letters hs).1 hw2
    exact ⟨h2.len, h2.blk, h2.nd, fun b hb' ho => by
      rcases ho with ho | ho
      · exact (g.blk b hb').2 ho
      · exact ho (g.blk b hb').1, h2.hold.1, fun b o hbo => h2.hold.2 b o (by unfold Mem.join; rw [hbo])⟩
/-- One that answers with a value. -/
theorem DenM.callvR {p : Bool} {f : SV} {args : List SV} {sh : Sh} {k : Tree} {fv : Value} {as : List Value} {r : Value} {pre : Mv → Prop} (hc : FnV P fv as pre fun v _ _ => v = r) (hpre : Good c L m → pre (vw c L ρ blks m)) (hk : ∀ m', (∀ b, m b ≠ none → m' b = m b) → DenM P R Dn k L (ρ ++ letsOf r) c m' A)
    (hf : f.den L ρ = fv := by rfl) (hargs : SV.dens L ρ args = as := by rfl) (hus : sh.eat (letsOf r) = some [] := by rfl) (hr : (sh.fresh ρ.length).1.den L (ρ ++ letsOf r) = r := by rfl)
    (hs : scBlks ρ.length blks = true := by rfl) : DenM P R Dn (.callv p f args sh blks k) L ρ c m A := .callvM hc hf hargs hs hpre fun v mq hfr hv => ⟨letsOf r, uOk_of hus, by rw [hv, hr], hk _ fun b hb => by
    cases hm : m b with
    | none => exact absurd hm hb
    | some o => unfold Mem.join; rw [hm]⟩
/-- An iterator that hands on memory, out of its tree. -/
theorem IterX.of {gf : FuncId} {shs : List Sh} {t : Tree} (hS : FnIs P gf shs t) (hmix : P.follows .mixedOrders = true) {lb : Array Value} {mf : Mem} {S : Mv} {N : Nat} {X : Nat → List Value → HW → Prop} (cap : List U)
    (hargs : ∀ yv, SV.dens [] (.v yv :: cap) (Sh.freshs shs 0).1 = yv :: lb.toList) (hus : ∀ yv, Value.oneCell' yv = true → Sh.eats shs (.v yv :: cap) = some [])
    (hd : ∀ (yv : Value) (J : Nat → HW → Prop) (E : HW → Prop), yv.oneCell' = true → YieldX P yv X J E → (∀ k h w, J k h → h.H w → S.le (Mv.of w)) → ∀ h (hw : ∃ w, h.H w) (hJ : J 0 h), Disj h (HW.mem mf) →
      DenM P (REnd N J E) (fun _ _ _ => False) t [] (.v yv :: cap) (Cx.around h) mf []) : IterX P gf lb (fun w => S.le (Mv.of w)) (HW.mem mf) N X := by
  intro yv J E h w hyv hy hpre hJ hh hf hdj
  obtain ⟨fn, ann, fuel, hfn, ht⟩ := hS
  have key := fn_sound hfn hmix ht (us := .v yv :: cap) (usOk_of (hus yv hyv)) (args := yv :: lb.toList) (hargs yv) (h := h.sep (HW.mem mf)) (w := w) ⟨hh, hf⟩ (R := REnd N J E)
    (hd yv J E hyv hy hpre h ⟨w, hh⟩ hJ hdj ⟨fun k hk ho => hdj k ho hk, by simp, List.nodup_nil⟩)
  have he : (yv :: lb.toList).toArray = #[yv] ++ lb := by rw [show (yv :: lb.toList) = [yv] ++ lb.toList from rfl]; simp
  rw [he] at key
  refine key.mono ?_
  rintro e w' ⟨v, rfl, h', hH', hg, hT, h1, h2, h3⟩
  exact ⟨⟨v, rfl⟩, hT, h1 w' hH', ⟨hg.size, fun k hk hn => ⟨fun ho => (hg.same k hk hn).1 (h2 k ho), (hg.same k hk hn).2⟩, hg.tape, hg.os, hg.output⟩, h3⟩
end
end Go.Sy
