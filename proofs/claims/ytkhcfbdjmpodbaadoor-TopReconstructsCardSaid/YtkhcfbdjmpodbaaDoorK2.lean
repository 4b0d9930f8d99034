/- Functions that read, and change what is their caller's own. -/
import Derived.Test.YtkhcfbdjmpodbaaDoorKk
set_option linter.unusedSimpArgs false
set_option linter.unusedVariables false
namespace Go.Sy
open Go Go.RowKit Go.Proofs.YtkhcfbdjmpodbaaDoor
def Mv.out (R : Mv) (mo : Mem) : Mv where
  c b o := match mo b with | none => R.c b o | some _ => none
  m b := match mo b with | none => R.m b | some _ => none
def Mv.free (R : Mv) (mo : Mem) : Prop := ∀ b, mo b ≠ none → (∀ o, R.c b o = none) ∧ R.m b = none
theorem Mv.out_free (R : Mv) (mo : Mem) : (R.out mo).free mo := fun b hb => by
  cases h : mo b with
  | none => exact absurd h hb
  | some x => exact ⟨fun o => by show (match mo b with | none => R.c b o | some _ => none) = none; rw [h], by show (match mo b with | none => R.m b | some _ => none) = none; rw [h]⟩
theorem Mv.out_c {R : Mv} {mo : Mem} {b : Nat} (h : mo b = none) (o : Nat) : (R.out mo).c b o = R.c b o := by show (match mo b with | none => R.c b o | some _ => none) = _; rw [h]
theorem Mv.out_m {R : Mv} {mo : Mem} {b : Nat} (h : mo b = none) : (R.out mo).m b = R.m b := by show (match mo b with | none => R.m b | some _ => none) = _; rw [h]
theorem Mv.out_le (R : Mv) (mo : Mem) : (R.out mo).le R := by
  refine ⟨fun b o v hv => ?_, fun b es hv => ?_⟩
  · cases h : mo b with
    | none => rw [Mv.out_c h] at hv; exact hv
    | some x => rw [(Mv.out_free R mo b (by rw [h]; simp)).1] at hv; cases hv
  · cases h : mo b with
    | none => rw [Mv.out_m h] at hv; exact hv
    | some x => rw [(Mv.out_free R mo b (by rw [h]; simp)).2] at hv; cases hv
theorem cells_out {R : Mv} {mo : Mem} {p : Option Addr} {xs : List Value} (h : Cells R p xs) (hb : ∀ b o, p = some ⟨b, o, none⟩ → mo b = none) : Cells (R.out mo) p xs := fun i x hx => by
  obtain ⟨b, o, e, hv⟩ := h i x hx
  exact ⟨b, o, e, by rw [Mv.out_c (hb b o e)]; exact hv⟩
theorem Good.Rout {c : Cx} {L : List Nat} {ρ : Env} {blks : List Blk} {m mo : Mem} (g : Good c L m) (hmo : ∀ b o, mo b = some o → m b = some o) : c.R.le ((vw c L ρ blks m).out mo) := by
  have key : ∀ b, c.hb.own b → mo b = none := fun b hb => by
    cases h : mo b with
    | none => rfl
    | some x => exact absurd hb (g.mem b (by rw [hmo b x h]; simp))
  refine ⟨fun b o v hv => ?_, fun b es hv => ?_⟩
  · rw [Mv.out_c (key b (c.own b o v hv))]; exact g.R.c b o v hv
  · rw [Mv.out_m (key b (c.ownm b es hv))]; exact g.R.m b es hv
def FnRO (P : Program) (f : FuncId) (args : List Value) (pre : Mv → Prop) (mo : Mem) (Q : Value → Mem → Prop) : Prop := ∀ (w : World) (R : Mv), R.le (Mv.of w) → R.free mo → pre R → (HW.mem mo).H w → Calls P f args.toArray w fun e w' => ∃ v, e = .returned v ∧ (w.heap.size ≤ w'.heap.size ∧ w'.tape = w.tape ∧ w'.os = w.os ∧ w'.output = w.output) ∧
  (∀ k, k < w.heap.size → mo k = none → w'.heap[k]? = w.heap[k]?) ∧ ∃ mq : Mem, (∀ b, mq b ≠ none → mo b ≠ none ∨ w.heap.size ≤ b) ∧ (HW.mem mq).H w' ∧ Q v mq
def FnVRO (P : Program) (fv : Value) (args : List Value) (pre : Mv → Prop) (mo : Mem) (Q : Value → Mem → Prop) : Prop := ∀ (w : World) (R : Mv), R.le (Mv.of w) → R.free mo → pre R → (HW.mem mo).H w → CallV P fv args.toArray w fun v w' => (w.heap.size ≤ w'.heap.size ∧ w'.tape = w.tape ∧ w'.os = w.os ∧ w'.output = w.output) ∧
  (∀ k, k < w.heap.size → mo k = none → w'.heap[k]? = w.heap[k]?) ∧ ∃ mq : Mem, (∀ b, mq b ≠ none → mo b ≠ none ∨ w.heap.size ≤ b) ∧ (HW.mem mq).H w' ∧ Q v mq
theorem FnVRO.of {P : Program} {g : FuncId} {args cap : List Value} {pre : Mv → Prop} {mo : Mem} {Q : Value → Mem → Prop} (hg : goodFn P g = true) (h : FnRO P g (args ++ cap) pre mo Q) : FnVRO P (.func (.func g) #[] cap.toArray) args pre mo Q := fun w R hR hf hp hm => .inl ⟨g, (args ++ cap).toArray, w, by
  simp only [Deferred.ofValue, Sem.run_bind, Sem.run_pure, Result.andThen_ok, invoke, run_callFunc hg]
  congr 2
  apply Array.ext'
  simp, h w R hR hf hp hm⟩
def Cx.own1 (w : World) (mo : Mem) (R : Mv) (hR : R.le (Mv.of w)) (hf : R.free mo) : Cx where
  hb := HW.bas w mo
  R := R
  ok w' b o v := fun h hv => by
    have h0 := hR.c b o v hv
    have hlt := World.block_lt_of_cell? w ⟨b, o, none⟩ h0
    have hn : mo b = none := by
      cases hm : mo b with
      | none => rfl
      | some x => rw [(hf b (by rw [hm]; simp)).1] at hv; cases hv
    exact (World.cell?_of_block (w := w) (h.2.1 b hlt hn)).trans h0
  own b o v := fun hv => ⟨World.block_lt_of_cell? w ⟨b, o, none⟩ (hR.c b o v hv), by
    cases hm : mo b with
    | none => rfl
    | some x => rw [(hf b (by rw [hm]; simp)).1] at hv; cases hv⟩
  okm w' b es := fun h hv => by
    obtain ⟨k, h0⟩ := Mv.of_m.1 (hR.m b es hv)
    have hn : mo b = none := by
      cases hm : mo b with
      | none => rfl
      | some x => rw [(hf b (by rw [hm]; simp)).2] at hv; cases hv
    exact Mv.of_m.2 ⟨k, (h.2.1 b (Array.getElem?_eq_some_iff.1 h0).1 hn).trans h0⟩
  ownm b es := fun hv => ⟨Mv.of_lt (hR.m b es hv), by
    cases hm : mo b with
    | none => rfl
    | some x => rw [(hf b (by rw [hm]; simp)).2] at hv; cases hv⟩
theorem FnRO.of {P : Program} {f : FuncId} {shs : List Sh} {t : Tree} (S : FnIs P f shs t) (hmix : P.follows .mixedOrders = true) (us : List U) (hus : Sh.eats shs us = some []) {args : List Value} (hargs : SV.dens [] us (Sh.freshs shs 0).1 = args) {pre : Mv → Prop} {mo : Mem} {Q : Value → Mem → Prop}
    (hd : ∀ c : Cx, pre c.R → DenM P (outM c Q) (fun _ _ _ => False) t [] us c mo []) : FnRO P f args pre mo Q := fun w R hR hf hp hmo => by
  obtain ⟨fn, ann, fuel, hfn, ht⟩ := S
  have g : Good (Cx.own1 w mo R hR hf) [] mo := ⟨fun b hb ho => hb ho.2, by simp, List.nodup_nil⟩
  have hH : ((Cx.own1 w mo R hR hf).hw mo).H w := ⟨HW.bas_self w _, hmo⟩
  refine (fn_sound hfn hmix ht (usOk_of hus) hargs hH (hd (Cx.own1 w mo R hR hf) hp g)).mono ?_
  rintro e w' ⟨v, rfl, h', hH', hg, m, hm, rfl, hQ⟩
  obtain ⟨q1, q2, q3, q4, q5⟩ := hH'.1
  refine ⟨v, rfl, ⟨q1, q3, q4, q5⟩, q2, m, fun b hb => ?_, hH'.2, hQ⟩
  have := hm b hb
  rcases Nat.lt_or_ge b w.heap.size with hlt | hge
  · exact .inl fun h => this ⟨hlt, h⟩
  · exact .inr hge
section
variable {P : Program} {c : Cx} {L : List Nat} {ρ : Env} {blks : List Blk} {m : Mem} {R : Value → HW → Prop} {Dn : Nat → List U → HW → Prop} {A : List (List U → HW → Prop)}
theorem DenM.callRO {f : FuncId} {args : List SV} {sh : Sh} {k : Tree} {vs : List Value} {pre : Mv → Prop} {mo : Mem} {Q : Value → Mem → Prop} (hc : FnRO P f vs pre mo Q) (hargs : SV.dens L ρ args = vs) (hs : scBlks ρ.length blks = true) (hmo : ∀ b o, mo b = some o → m b = some o) (hpre : Good c L m → pre ((vw c L ρ blks m).out mo))
    (hk : ∀ v mq, (∀ b, mq b ≠ none → mo b ≠ none ∨ (m b = none ∧ b ∉ L ∧ ¬ c.hb.own b)) → Q v mq → ∃ us, UOk sh us ∧ v = (sh.fresh ρ.length).1.den L (ρ ++ us) ∧ DenM P R Dn k L (ρ ++ us) c ((m.minus mo).join mq) A) : DenM P R Dn (.call false f args sh blks k) L ρ c m A := fun g =>
  DenM.callOw (fun w hw => hc w _ ((Mv.out_le _ _).trans (vw_cell hw)) (Mv.out_free _ _) (hpre g) fun b o hb => hw.hold.2 b o (hmo b o hb)) hargs hs hmo hk g
theorem DenM.callvRO {f : SV} {args : List SV} {sh : Sh} {k : Tree} {fv : Value} {vs : List Value} {pre : Mv → Prop} {mo : Mem} {Q : Value → Mem → Prop} (hc : FnVRO P fv vs pre mo Q) (hf : f.den L ρ = fv) (hargs : SV.dens L ρ args = vs) (hs : scBlks ρ.length blks = true) (hmo : ∀ b o, mo b = some o → m b = some o) (hpre : Good c L m → pre ((vw c L ρ blks m).out mo))
    (hk : ∀ v mq, (∀ b, mq b ≠ none → mo b ≠ none ∨ (m b = none ∧ b ∉ L ∧ ¬ c.hb.own b)) → Q v mq → ∃ us, UOk sh us ∧ v = (sh.fresh ρ.length).1.den L (ρ ++ us) ∧ DenM P R Dn k L (ρ ++ us) c ((m.minus mo).join mq) A) : DenM P R Dn (.callv false f args sh blks k) L ρ c m A := fun g w hw => by
  rw [hf, hargs]
  have hno : ∀ b, m b = none → mo b = none := fun b hb => by
    cases h : mo b with
    | none => rfl
    | some o => rw [hmo b o h] at hb; cases hb
  refine CallV.mono ?_ (hc w _ ((Mv.out_le _ _).trans (vw_cell hw)) (Mv.out_free _ _) (hpre g) fun b o hb => hw.hold.2 b o (hmo b o hb))
  rintro v w' ⟨⟨b1, b2, b3, b4⟩, hsame, mq, hfr, hmq, hQ⟩
  have hml : ∀ b, m b ≠ none → b < w.heap.size := fun b hb => (HW.mem m).inb w b hw.hold.2 hb
  have hfresh : ∀ b, mq b ≠ none → mo b ≠ none ∨ (m b = none ∧ b ∉ L ∧ ¬ c.hb.own b) := fun b hb' => by
    rcases hfr b hb' with h | hge
    · exact .inl h
    refine .inr ⟨?_, fun hm => by have := hw.lt b hm; omega, fun ho => by have := c.hb.inb w b hw.hold.1 ho; omega⟩
    cases hm : m b with
    | none => rfl
    | some o => have := hml b (by rw [hm]; simp); omega
  obtain ⟨us, hus, hv, hd⟩ := hk v mq hfresh hQ
  have hminus : ∀ b, m.minus mo b ≠ none → m b ≠ none ∧ mo b = none := fun b hb => ⟨by have := Mem.minus_none b hb; rw [Mem.minus_at this] at hb; exact hb, Mem.minus_none b hb⟩
  have hm' : ∀ b, (m.minus mo).join mq b ≠ none → m b ≠ none ∨ (m b = none ∧ b ∉ L ∧ ¬ c.hb.own b ∧ w.heap.size ≤ b) := fun b hb => by
    rcases join_some hb with h | ⟨_, h⟩
    · exact .inl (hminus b h).1
    · by_cases hmb : m b = none
      · refine .inr ?_
        rcases hfr b h with h2 | h2
        · exact absurd (hno b hmb) h2
        · rcases hfresh b h with h3 | h3
          · exact absurd (hno b hmb) h3
          · exact ⟨h3.1, h3.2.1, h3.2.2, h2⟩
      · exact .inl hmb
  have hgood : Good c L ((m.minus mo).join mq) := ⟨fun b hb' => (hm' b hb').elim (g.mem b) fun h => h.2.2.1, fun b hb' => ⟨by
    cases hq : (m.minus mo).join mq b with
    | none => rfl
    | some o => exact ((hm' b (by rw [hq]; simp)).elim (fun h => h (g.blk b hb').1) fun h => h.2.1 hb').elim, (g.blk b hb').2⟩, g.nd⟩
  have hkeep : ∀ b, b < w.heap.size → m b = none → w'.heap[b]? = w.heap[b]? := fun b hb h => hsame b hb (hno b h)
  have hw' : Wd L ρ blks (c.hw ((m.minus mo).join mq)) w' := ⟨hw.len, fun j q hq => by
    have hm : L.getD j 0 ∈ L := getD_mem (by rw [hw.len]; exact (List.getElem?_eq_some_iff.1 hq).1)
    rw [hkeep _ (hw.lt _ hm) (g.blk _ hm).1]; exact hw.blk j q hq, hw.nd, fun b hb' ho => by
    rcases ho with ho | ho
    · exact (g.blk b hb').2 ho
    · exact ho (hgood.blk b hb').1, c.hb.stab w w' hw.hold.1 b1 (fun b hb => hkeep b (c.hb.inb w b hw.hold.1 hb) (by
      cases hm : m b with
      | none => rfl
      | some o => exact absurd hb (g.mem b (by rw [hm]; simp)))) b2 b3 b4, fun b o hbo => by
      have hbo' := hbo
      unfold Mem.join at hbo
      cases hm : m.minus mo b with
      | some x =>
        rw [hm] at hbo; cases hbo
        have h2 := hminus b (by rw [hm]; simp)
        rw [Mem.minus_at h2.2] at hm
        rw [hsame b (hml b h2.1) h2.2]; exact hw.hold.2 b _ hm
      | none => rw [hm] at hbo; exact hmq b o hbo⟩
  refine ⟨us, c.hw ((m.minus mo).join mq), hus, hv, ⟨b1, fun k hk hn => ⟨fun ho => ?_, hkeep k hk ?_⟩, b2, b3, b4⟩, fun h => (by cases h), (Wd.letters hs).2 hw', hd hgood⟩
  · rcases ho with (ho | ho) | ho
    · exact hn (.inl (.inl ho))
    · rcases hm' k ho with h | h
      · exact hn (.inl (.inr h))
      · omega
    · exact hn (.inr ho)
  · cases hm : m k with
    | none => rfl
    | some o => exact absurd (.inl (.inr (by show m k ≠ none; rw [hm]; simp))) hn
theorem DenM.storeSame {p : Bool} {i : Nat} {off : IT} {cells : List SV} {k : Tree} (b o : Nat) (cur : Array Value) (e : TypeId) (ha : atAddr ρ i (off.eval ρ) = some ⟨b, o, none⟩) (hm : m b = some (.cells cur e (0, 0))) (hle : o + cells.length ≤ cur.size) (hsame : (putAt cur.toList o (SV.dens L ρ cells)).toArray = cur)
    (hk : DenM P R Dn k L ρ c m A) : DenM P R Dn (.store p i off cells blks k) L ρ c m A := fun g w hw => by
  have hbo : ¬ c.hb.own b := g.mem b (by rw [hm]; simp)
  refine ⟨b, o, cur, e, ha, hw.hold.2 b _ hm, hle, .inr (by show m b ≠ none; rw [hm]; simp), c.hw m, fun x hx => hx, fun _ _ h => h, ⟨?_, fun x o' hx => ?_⟩, hk g⟩
  · exact c.hb.stab w _ hw.hold.1 (by simp) (fun x hx => setRow_other _ _ _ _ fun e' => hbo (e' ▸ hx)) rfl rfl rfl
  · rw [hsame]
    by_cases e' : x = b
    · subst e'
      rw [hm] at hx; cases hx
      exact setRow_heap _ _ _ _ _ _ (hw.hold.2 x _ hm)
    · rw [setRow_other _ _ _ _ e']; exact hw.hold.2 x o' hx
end
end Go.Sy
