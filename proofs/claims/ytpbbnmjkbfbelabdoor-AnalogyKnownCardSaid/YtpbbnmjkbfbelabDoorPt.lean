/- Calls of function values; iterators that hand on memory; cap; append of zeros. -/
import Derived.Test.YtpbbnmjkbfbelabDoorBa
import Derived.Lib.AppendZeros
set_option linter.unusedSimpArgs false
set_option linter.unusedVariables false
namespace Go.Sy
open Go Go.RowKit
def FnV (P : Program) (fv : Value) (args : List Value) (pre : Mv → Prop) (Q : Value → Mem → Mv → Prop) : Prop := ∀ (w : World) (R : Mv), R.le (Mv.of w) → pre R → CallV P fv args.toArray w fun v w' => Below w.heap.size w w' ∧
  ∃ mq : Mem, (∀ b, mq b ≠ none → w.heap.size ≤ b) ∧ (HW.mem mq).H w' ∧ Q v mq (R.on mq)
theorem FnV.of {P : Program} {g : FuncId} {args cap : List Value} {pre : Mv → Prop} {Q : Value → Mem → Mv → Prop} (hg : goodFn P g = true) (h : FnM P g (args ++ cap) pre Q) : FnV P (.func (.func g) #[] cap.toArray) args pre Q := fun w R hR hp => .inl ⟨g, (args ++ cap).toArray, w, by
  simp only [Deferred.ofValue, Sem.run_bind, Sem.run_pure, Result.andThen_ok, invoke, run_callFunc hg]
  congr 2
  apply Array.ext'
  simp, h w R hR hp⟩
theorem FnV.of0 {P : Program} {g : FuncId} {vs : List Value} {pre : Mv → Prop} {Q : Value → Mem → Mv → Prop} (hg : goodFn P g = true) (h : FnM P g vs pre Q) : FnV P (.func (.func g) #[] #[]) vs pre Q := FnV.of (cap := []) hg (by rw [List.append_nil]; exact h)
theorem den_mono {P : Program} {R R' : Value → HW → Prop} {Dn Dn' : Nat → List U → HW → Prop} (hR : ∀ v h, R v h → R' v h) (hD : ∀ n us h, Dn n us h → Dn' n us h) : ∀ (t : Tree) (L : List Nat) (ρ : Env) (h : HW) (A : List (List U → HW → Prop)), den P R Dn t L ρ h A → den P R' Dn' t L ρ h A
  | .bad _, _, _, _, _, d => d
  | .ret _ _, _, _, _, _, d => let ⟨h2, a, b, r⟩ := d; ⟨h2, a, b, hR _ _ r⟩
  | .ite _ t e, L, ρ, h, A, d => ⟨fun q => den_mono hR hD t L ρ h A (d.1 q), fun q => den_mono hR hD e L ρ h A (d.2 q)⟩
  | .chk _ k, L, ρ, h, A, d => ⟨d.1, den_mono hR hD k L ρ h A d.2⟩
  | .alloc k, L, ρ, h, A, d => fun b h1 h2 => den_mono hR hD k _ _ _ _ (d b h1 h2)
  | .allocc _ _ k, L, ρ, h, A, d => fun b h1 h2 => den_mono hR hD k _ _ _ _ (d b h1 h2)
  | .allocb _ _ k, L, ρ, h, A, d => fun b h1 h2 => den_mono hR hD k _ _ _ _ (d b h1 h2)
  | .load _ _ _ _ k, L, ρ, h, A, d => let ⟨us, a, b, r⟩ := d; ⟨us, a, b, den_mono hR hD k _ _ _ _ r⟩
  | .store _ _ _ _ _ k, L, ρ, h, A, d => fun w hw => let ⟨b, o, cur, e, q1, q2, q3, q4, h', q5, q6, q7, r⟩ := d w hw; ⟨b, o, cur, e, q1, q2, q3, q4, h', q5, q6, q7, den_mono hR hD k _ _ _ _ r⟩
  | .call _ _ _ _ _ k, L, ρ, h, A, d => fun w hw => (d w hw).mono fun e w' ⟨v, he, us, h', q1, q2, q3, q4, q5, r⟩ => ⟨v, he, us, h', q1, q2, q3, q4, q5, den_mono hR hD k _ _ _ _ r⟩
  | .callv _ _ _ _ _ k, L, ρ, h, A, d => fun w hw => CallV.mono (fun v w' ⟨us, h', q1, q2, q3, q4, q5, r⟩ => ⟨us, h', q1, q2, q3, q4, q5, den_mono hR hD k _ _ _ _ r⟩) (d w hw)
  | .ext _ _ _ _ k, L, ρ, h, A, d => fun w hw => let ⟨v, w', q0, us, h', q1, q2, q3, q4, q5, r⟩ := d w hw; ⟨v, w', q0, us, h', q1, q2, q3, q4, q5, den_mono hR hD k _ _ _ _ r⟩
  | .extp _ _ _ k, L, ρ, h, A, d => let ⟨us, a, b, r⟩ := d; ⟨us, a, b, den_mono hR hD k _ _ _ _ r⟩
  | .extu _ _ _ k, L, ρ, h, A, d => fun w hw => let ⟨w', q0, h', q1, q2, q3, r⟩ := d w hw; ⟨w', q0, h', q1, q2, q3, den_mono hR hD k _ _ _ _ r⟩
  | .exk _ _ _ _ k, L, ρ, h, A, d => fun w hw => let ⟨v, w', q0, us, h', q1, q2, q3, q4, q5, r⟩ := d w hw; ⟨v, w', q0, us, h', q1, q2, q3, q4, q5, den_mono hR hD k _ _ _ _ r⟩
  | .nxt _ _ _ _ kT kF, L, ρ, h, A, d => fun w hw => let ⟨v, w', q0, r⟩ := d w hw; ⟨v, w', q0, r.imp (fun ⟨us, h', q1, q2, q3, q4, q5, r⟩ => ⟨us, h', q1, q2, q3, q4, q5, den_mono hR hD kT _ _ _ _ r⟩) fun ⟨h', q1, q2, q3, q4, r⟩ => ⟨h', q1, q2, q3, q4, den_mono hR hD kF _ _ _ _ r⟩⟩
  | .join _ _ _ t k, L, ρ, h, A, d => let ⟨I, a, b⟩ := d; ⟨I, den_mono hR hD t _ _ _ _ a, fun us h1 q1 q2 q3 => den_mono hR hD k _ _ _ _ (b us h1 q1 q2 q3)⟩
  | .loop _ _ _ _ _ body, L, ρ, h, A, d => let ⟨I, m0, a, b⟩ := d; ⟨I, m0, a, fun m us h1 q1 q2 q3 => den_mono hR hD body _ _ _ _ (b m us h1 q1 q2 q3)⟩
  | .again .., _, _, _, _, d => d
  | .leave .., _, _, _, _, d => let ⟨h2, a, b, r⟩ := d; ⟨h2, a, b, hD _ _ _ r⟩
  | .range _ _ _ _ _ _ body rest, L, ρ, h, A, d => let ⟨gf, lb, N, X, pre, hf, h0, I, E, q1, q2, q3, q4, q5, q6, q7, q8, q9, q10, q11, q12, q13⟩ := d
    ⟨gf, lb, N, X, pre, hf, h0, I, E, q1, q2, q3, q4, q5, q6, q7, q8, q9, q10, q11, fun us h1 a b c => den_mono hR hD rest _ _ _ _ (q12 us h1 a b c), fun n us h1 a b c e => den_mono hR hD rest _ _ _ _ (q13 n us h1 a b c e)⟩
section
variable {P : Program} {c : Cx} {L : List Nat} {ρ : Env} {blks : List Blk} {m : Mem} {R : Value → HW → Prop} {Dn : Nat → List U → HW → Prop} {A : List (List U → HW → Prop)}
theorem DenM.callvM {p : Bool} {f : SV} {args : List SV} {sh : Sh} {k : Tree} {fv : Value} {as : List Value} {pre : Mv → Prop} {Q : Value → Mem → Mv → Prop} (hc : FnV P fv as pre Q) (hf : f.den L ρ = fv) (hargs : SV.dens L ρ args = as) (hs : scBlks ρ.length blks = true) (hpre : Good c L m → pre (vw c L ρ blks m))
    (hk : ∀ v mq, (∀ b, mq b ≠ none → m b = none ∧ b ∉ L ∧ ¬ c.hb.own b) → Q v mq ((vw c L ρ blks m).on mq) → ∃ us, UOk sh us ∧ v = (sh.fresh ρ.length).1.den L (ρ ++ us) ∧ DenM P R Dn k L (ρ ++ us) c (m.join mq) A) : DenM P R Dn (.callv p f args sh blks k) L ρ c m A := fun g w hw => by
  rw [hf, hargs]
  refine CallV.mono ?_ (hc w _ (vw_cell hw) (hpre g))
  rintro v w' ⟨hb, mq, hfr, hmq, hQ⟩
  have hfresh : ∀ b, mq b ≠ none → m b = none ∧ b ∉ L ∧ ¬ c.hb.own b := fun b hb' => by
    have hge := hfr b hb'
    refine ⟨?_, fun hm => by have := hw.lt b hm; omega, fun ho => by have := c.hb.inb w b hw.hold.1 ho; omega⟩
    cases hm : m b with
    | none => rfl
    | some o => have := (HW.mem m).inb w b hw.hold.2 (by show m b ≠ none; rw [hm]; simp); omega
  obtain ⟨us, hus, hv, hd⟩ := hk v mq hfresh hQ
  have hw0 := hw.below hb
  have hgood : Good c L (m.join mq) := ⟨fun b hb' => (join_some hb').elim (g.mem b) fun h => (hfresh b h.2).2.2, fun b hb' => ⟨by
    cases hq : mq b with
    | none => unfold Mem.join; rw [(g.blk b hb').1]; exact hq
    | some o => exact absurd hb' (hfresh b (by rw [hq]; simp)).2.1, (g.blk b hb').2⟩, g.nd⟩
  have hw' : Wd L ρ blks (c.hw (m.join mq)) w' := ⟨hw0.len, hw0.blk, hw0.nd, fun b hb' ho => by
    rcases ho with ho | ho
    · exact (g.blk b hb').2 ho
    · exact ho (hgood.blk b hb').1, hw0.hold.1, fun b o hbo => by
      unfold Mem.join at hbo
      cases hm : m b with
      | some x => rw [hm] at hbo; cases hbo; exact hw0.hold.2 b _ hm
      | none => rw [hm] at hbo; exact hmq b o hbo⟩
  refine ⟨us, c.hw (m.join mq), hus, hv, ⟨hb.size, fun k hk hn => ⟨fun ho => ?_, hb.block k hk⟩, hb.tape, hb.os, hb.output⟩, fun _ w2 hw2 => ?_, (Wd.letters hs).2 hw', hd hgood⟩
  · rcases ho with (ho | ho) | ho
    · exact hn (.inl (.inl ho))
    · rcases join_some ho with ho | ho
      · exact hn (.inl (.inr ho))
      · have := hfr k ho.2; omega
    · exact hn (.inr ho)
  · have h2 := (Wd.letters hs).1 hw2
    exact ⟨h2.len, h2.blk, h2.nd, fun b hb' ho => by
      rcases ho with ho | ho
      · exact (g.blk b hb').2 ho
      · exact ho (g.blk b hb').1, h2.hold.1, fun b o hbo => h2.hold.2 b o (by unfold Mem.join; rw [hbo])⟩
theorem DenM.callvR {p : Bool} {f : SV} {args : List SV} {sh : Sh} {k : Tree} {fv : Value} {as : List Value} {r : Value} {pre : Mv → Prop} (hc : FnV P fv as pre fun v _ _ => v = r) (hpre : Good c L m → pre (vw c L ρ blks m)) (hk : ∀ m', (∀ b, m b ≠ none → m' b = m b) → DenM P R Dn k L (ρ ++ lO r) c m' A)
    (hf : f.den L ρ = fv := by rfl) (hargs : SV.dens L ρ args = as := by rfl) (hus : sh.eat (lO r) = some [] := by rfl) (hr : (sh.fresh ρ.length).1.den L (ρ ++ lO r) = r := by rfl)
    (hs : scBlks ρ.length blks = true := by rfl) : DenM P R Dn (.callv p f args sh blks k) L ρ c m A := .callvM hc hf hargs hs hpre fun v mq hfr hv => ⟨lO r, uOk_of hus, by rw [hv, hr], hk _ fun b hb => by
    cases hm : m b with
    | none => exact absurd hm hb
    | some o => unfold Mem.join; rw [hm]⟩
theorem hw_join {m mx : Mem} (h : ∀ b, m b ≠ none → mx b = none) : (c.hw m).sep (HW.mem mx) = c.hw (m.join mx) := by
  have hj : ∀ b o, m.join mx b = some o ↔ m b = some o ∨ mx b = some o := fun b o => by
    unfold Mem.join
    cases hm : m b with
    | none => simp
    | some x => simp [h b (by rw [hm]; simp)]
  refine HW.eq (funext fun w => propext ⟨fun ⟨⟨h1, h2⟩, h3⟩ => ⟨h1, fun b o hb => ((hj b o).1 hb).elim (h2 b o) (h3 b o)⟩, fun ⟨h1, h2⟩ => ⟨⟨h1, fun b o hb => h2 b o ((hj b o).2 (.inl hb))⟩, fun b o hb => h2 b o ((hj b o).2 (.inr hb))⟩⟩) (funext fun b => propext ?_)
  constructor
  · rintro ((q | q) | q)
    · exact .inl q
    · refine .inr ?_
      obtain ⟨o, ho⟩ := Option.ne_none_iff_exists'.1 q
      show m.join mx b ≠ none
      rw [(hj b o).2 (.inl ho)]; simp
    · refine .inr ?_
      obtain ⟨o, ho⟩ := Option.ne_none_iff_exists'.1 q
      show m.join mx b ≠ none
      rw [(hj b o).2 (.inr ho)]; simp
  · rintro (q | q)
    · exact .inl (.inl q)
    · obtain ⟨o, ho⟩ := Option.ne_none_iff_exists'.1 q
      rcases (hj b o).1 ho with q' | q'
      · exact .inl (.inr (by show m b ≠ none; rw [q']; simp))
      · exact .inr (by show mx b ≠ none; rw [q']; simp)
theorem DenM.rangeX {f : SV} {psh shs : List Sh} {vals : List SV} {head : List Blk} {body rest : Tree} (gf : FuncId) (lb : Array Value) (N : Nat) (X : Nat → List U → Mem → Prop) (pre : World → Prop) (mf m0 : Mem) (I E : Nat → List U → Mem → Prop)
    (hfv : f.den L ρ = .func (.func gf) #[] lb) (hgf : goodFn P gf = true) (hm : m = m0.join mf) (hd : ∀ b, m0 b ≠ none → mf b = none) (hxs : ∀ k ux mx, X k ux mx → UsOk psh ux)
    (hiter : IterX P gf lb pre (HW.mem mf) N fun k x hx => ∃ ux mx, X k ux mx ∧ hx = HW.mem mx ∧ x = SV.dens [] ux (Sh.freshs psh 0).1) (h0 : I 0 (Sh.uss L ρ shs vals) m0) (hpre : ∀ k us m' w, I k us m' → Wd L (ρ ++ us) head (c.hw m') w → pre w)
    (hbody : ∀ k us ux m' mx, UsOk shs us → X k ux mx → I k us m' → (∀ b, m' b ≠ none → mx b = none) → DenM P (fun _ _ => False) (fun n => inM c fun us' m'' => (∀ b o, mx b = some o → m'' b = some o) ∧ ((n = 0 ∧ I (k + 1) us' m'') ∨ (n ≠ 0 ∧ E n us' m''))) body L (ρ ++ us ++ ux) c (m'.join mx) [])
    (hend : ∀ us m', UsOk shs us → I N us m' → DenM P R Dn rest L (ρ ++ us ++ [.i 0]) c m' A)
    (hleft : ∀ n us m', n ≠ 0 → UsOk shs us → E n us m' → DenM P R Dn rest L (ρ ++ us ++ [.i (n : Nat)]) c m' A) : DenM P R Dn (.range f psh shs vals blks head body rest) L ρ c m A := fun g => by
  have hmf : ∀ b, mf b ≠ none → m b ≠ none := fun b hb => by
    rw [hm]; unfold Mem.join
    cases h : m0 b with
    | none => exact hb
    | some o => simp
  have hm0 : ∀ b, m0 b ≠ none → m b ≠ none := fun b hb => by
    rw [hm]; unfold Mem.join
    cases h : m0 b with
    | none => exact absurd h hb
    | some o => simp
  have good : ∀ us m', c.memOk m' → (∃ w, Wd L (ρ ++ us) head (c.hw m') w) → Good c L m' := fun us m' h1 ⟨w, hw⟩ => ⟨h1, fun b hb => not_own (hw.good b hb), g.nd⟩
  refine ⟨gf, lb, N, fun k ux hx => ∃ mx, X k ux mx ∧ hx = HW.mem mx, pre, HW.mem mf, c.hw m0, fun k => inM c (I k), fun k => inM c (E k), hfv, fun args w => run_callFunc hgf args w, fun w hw => ⟨⟨hw.hold.1, fun b o hb => ?_⟩, fun b o hb => ?_⟩, fun b hb => ?_, fun b hb => .inr (hmf b hb), fun b h1 h2 => ?_, fun k ux hx ⟨mx, h, _⟩ => hxs k ux mx h, ?_, ⟨m0, fun b hb => g.mem b (hm0 b hb), rfl, h0⟩, ?_, ?_, ?_, ?_⟩
  · exact hw.hold.2 b o (by rw [hm]; unfold Mem.join; rw [hb])
  · refine hw.hold.2 b o ?_
    rw [hm]; unfold Mem.join
    cases h : m0 b with
    | none => exact hb
    | some x => have := hd b (by rw [h]; simp); rw [hb] at this; cases this
  · rcases hb with hb | hb
    · exact .inl hb
    · exact .inr (hm0 b hb)
  · rcases h1 with h1 | h1
    · exact g.mem b (hmf b h2) h1
    · exact h2 (hd b h1)
  · have e : (fun k x hx => ∃ ux, (∃ mx, X k ux mx ∧ hx = HW.mem mx) ∧ x = SV.dens [] ux (Sh.freshs psh 0).1) = fun k x hx => ∃ ux mx, X k ux mx ∧ hx = HW.mem mx ∧ x = SV.dens [] ux (Sh.freshs psh 0).1 := by
      funext k x hx
      exact propext ⟨fun ⟨ux, ⟨mx, h1, h2⟩, h3⟩ => ⟨ux, mx, h1, h2, h3⟩, fun ⟨ux, mx, h1, h2, h3⟩ => ⟨ux, ⟨mx, h1, h2⟩, h3⟩⟩
    rw [e]; exact hiter
  · rintro k us _ w ⟨m', _, rfl, hI⟩ hw
    exact hpre k us m' w hI hw
  · rintro k us ux _ _ hus ⟨mx, hX, rfl⟩ ⟨m', hm', rfl, hI⟩ hdj hw
    have hdm : ∀ b, m' b ≠ none → mx b = none := fun b hb => by
      cases hq : mx b with
      | none => rfl
      | some o => exact absurd (show (HW.mem mx).own b by show mx b ≠ none; rw [hq]; simp) (hdj b (.inr hb))
    rw [hw_join hdm] at hw ⊢
    have hmo : c.memOk (m'.join mx) := fun b hb ho => (join_some hb).elim (fun h => hm' b h ho) fun h => hdj b (.inl ho) h.2
    refine den_mono (fun _ _ h => h) (fun n us' h' => ?_) _ _ _ _ _ (hbody k us ux m' mx hus hX hI hdm (good us _ hmo hw))
    rintro ⟨m2, q1, rfl, q2, q3⟩
    refine ⟨fun w h b o hb => h.2 b o (q2 b o hb), ?_⟩
    rcases q3 with ⟨q, q3⟩ | ⟨q, q3⟩
    · exact .inl ⟨q, m2, q1, rfl, q3⟩
    · exact .inr ⟨q, m2, q1, rfl, q3⟩
  · rintro us _ hus ⟨m', hm', rfl, hI⟩ hw
    exact hend us m' hus hI (good us m' hm' hw)
  · rintro n us _ hn hus ⟨m', hm', rfl, hE⟩ hw
    exact hleft n us m' hn hus hE (good us m' hm' hw)
theorem IterX.of {gf : FuncId} {shs : List Sh} {t : Tree} (hS : FnIs P gf shs t) (hmix : P.follows .mixedOrders = true) {lb : Array Value} {mf : Mem} {S : Mv} {N : Nat} {X : Nat → List Value → HW → Prop} (cap : List U)
    (hargs : ∀ yv, SV.dens [] (.v yv :: cap) (Sh.freshs shs 0).1 = yv :: lb.toList) (hus : ∀ yv, Value.oneCell' yv = true → Sh.eats shs (.v yv :: cap) = some [])
    (hd : ∀ (yv : Value) (J : Nat → HW → Prop) (E : HW → Prop), yv.oneCell' = true → YieldX P yv X J E → (∀ k h w, J k h → h.H w → S.le (Mv.of w)) → ∀ h (hw : ∃ w, h.H w) (hJ : J 0 h), Disj h (HW.mem mf) →
      DenM P (REnd N J E) (fun _ _ _ => False) t [] (.v yv :: cap) (Cx.around h) mf []) : IterX P gf lb (fun w => S.le (Mv.of w)) (HW.mem mf) N X := by
  intro yv J E h w hyv hy hpre hJ hh hf hdj
  obtain ⟨fn, ann, fuel, hfn, ht⟩ := hS
  have key := fn_sound hfn hmix ht (us := .v yv :: cap) (usOk_of (hus yv hyv)) (args := yv :: lb.toList) (hargs yv) (h := h.sep (HW.mem mf)) (w := w) ⟨hh, hf⟩ (R := REnd N J E)
    (hd yv J E hyv hy hpre h ⟨w, hh⟩ hJ hdj ⟨fun k hk ho => hdj k ho hk, by simp, List.nodup_nil⟩)
  have he : (yv :: lb.toList).toArray = #[yv] ++ lb := by rw [show (yv :: lb.toList) = [yv] ++ lb.toList from rfl]; simp
  rw [he] at key
  refine key.mono ?_
  rintro e w' ⟨v, rfl, h', hH', hg, hT, h1, h2, h3⟩
  exact ⟨⟨v, rfl⟩, hT, h1 w' hH', ⟨hg.size, fun k hk hn => ⟨fun ho => (hg.same k hk hn).1 (h2 k ho), (hg.same k hk hn).2⟩, hg.tape, hg.os, hg.output⟩, h3⟩
theorem DenM.yieldX {f : SV} {args : List SV} {k : Tree} {yv : Value} {X : Nat → List Value → HW → Prop} {J : Nat → HW → Prop} {E : HW → Prop} {q : Nat} {x : List Value} {m0 mx : Mem} (hy : YieldX P yv X J E) (hJ : J q c.hb) (hx : X q x (HW.mem mx)) (hm : m = m0.join mx) (hdj : ∀ b, m0 b ≠ none → mx b = none)
    (ht : ∀ hT' (_ : ∃ w, hT'.H w), J (q + 1) hT' → (∀ w, hT'.H w → (HW.mem mx).H w) → DenM P R Dn k L (ρ ++ [.b true]) (Cx.around hT') m0 A) (he : ∀ hT', E hT' → DenM P R Dn k L (ρ ++ [.b false]) (Cx.around hT') m0 A)
    (hf : f.den L ρ = yv := by rfl) (hargs : SV.dens L ρ args = x := by rfl) (hs : scBlks ρ.length blks = true := by rfl) :
    DenM P R Dn (.callv false f args .bool blks k) L ρ c m A := fun g => by
  intro w hw
  have hj : ∀ b o, m b = some o ↔ m0 b = some o ∨ mx b = some o := fun b o => by
    rw [hm]; unfold Mem.join
    cases h : m0 b with
    | none => simp
    | some x => simp [hdj b (by rw [h]; simp)]
  have hn : ∀ b, m b = none ↔ m0 b = none ∧ mx b = none := fun b => by
    rw [hm]; unfold Mem.join
    cases h : m0 b <;> simp
  have h0 : (HW.mem m0).H w := fun b o hb => hw.hold.2 b o ((hj b o).2 (.inl hb))
  have hmx : (HW.mem mx).H w := fun b o hb => hw.hold.2 b o ((hj b o).2 (.inr hb))
  have d1 : Disj c.hb (HW.mem mx) := fun b h1 h2 => by
    obtain ⟨o, ho⟩ := Option.ne_none_iff_exists'.1 h2
    exact g.mem b (by rw [(hj b o).2 (.inr ho)]; simp) h1
  rw [hf, hargs]
  refine CallV.mono ?_ (hy q x c.hb (HW.mem mx) w hx hJ hw.hold.1 hmx d1)
  rintro v w' ⟨hT', hH, hg, hret, hor⟩
  have hd : Disj (HW.mem m0) (c.hb.sep (HW.mem mx)) := fun b h1 h2 => by
    rcases h2 with h2 | h2
    · obtain ⟨o, ho⟩ := Option.ne_none_iff_exists'.1 h1
      exact g.mem b (by rw [(hj b o).2 (.inl ho)]; simp) h2
    · exact h2 (hdj b h1)
  have hmem := hg.keeps h0 hd
  have hkeep : ∀ b ∈ L, w'.heap[b]? = w.heap[b]? ∧ ¬ hT'.own b := fun b hb => by
    have := hg.same b (hw.lt b hb) (fun ho => by
      rcases ho with ho | ho
      · exact (g.blk b hb).2 ho
      · exact ho ((hn b).1 (g.blk b hb).1).2)
    exact ⟨this.2, this.1⟩
  have hgood : Good (Cx.around hT') L m0 := ⟨fun b hb ho => hmem.2 b hb ho, fun b hb => ⟨((hn b).1 (g.blk b hb).1).1, (hkeep b hb).2⟩, g.nd⟩
  have hwd : Wd L ρ blks (hT'.sep (HW.mem m0)) w' := ⟨hw.len, fun j k hj => ((hkeep _ (getD_mem (by rw [hw.len]; exact (List.getElem?_eq_some_iff.1 hj).1))).1).trans (hw.blk j k hj), hw.nd, fun b hb ho => by
    rcases ho with ho | ho
    · exact (hkeep b hb).2 ho
    · exact ho ((hn b).1 (g.blk b hb).1).1, hH, hmem.1⟩
  have hgr : ∀ us, Grow (kw L ρ blks (c.hw m)) w (kw L (ρ ++ us) blks (hT'.sep (HW.mem m0))) w' := fun us => ⟨hg.size, fun i hi hn' => by
    have h1 := hg.same i hi (fun ho => hn' (by
      rcases ho with ho | ho
      · exact .inl (.inl ho)
      · obtain ⟨o, ho⟩ := Option.ne_none_iff_exists'.1 ho
        exact .inl (.inr (by show m i ≠ none; rw [(hj i o).2 (.inr ho)]; simp))))
    refine ⟨fun ho => ?_, h1.2⟩
    rcases ho with (ho | ho) | ho
    · exact h1.1 ho
    · obtain ⟨o, ho⟩ := Option.ne_none_iff_exists'.1 ho
      exact hn' (.inl (.inr (by show m i ≠ none; rw [(hj i o).2 (.inl ho)]; simp)))
    · exact hn' (.inr ho), hg.tape, hg.os, hg.output⟩
  rcases hor with ⟨rfl, hJ'⟩ | ⟨rfl, hE⟩
  · refine ⟨[.b true], _, ⟨true, rfl⟩, ?_, hgr _, fun h => (by cases h), (Wd.letters hs).2 hwd, ht hT' ⟨w', hH⟩ hJ' hret hgood⟩
    simp only [Sh.fresh, SV.den, BT.eval]; rw [bool_at]
  · refine ⟨[.b false], _, ⟨false, rfl⟩, ?_, hgr _, fun h => (by cases h), (Wd.letters hs).2 hwd, he hT' hE hgood⟩
    simp only [Sh.fresh, SV.den, BT.eval]; rw [bool_at]
theorem DenM.capS {p : Bool} {as : Array Operand} {t ty e : TypeId} {sv : SV} {k : Tree} (ht : P.underlying t = some (.slice e)) (q : Option Addr) (n cap : Nat) (hk : DenM P R Dn k L (ρ ++ [.i (cap : Nat)]) c m A) (hv : sv.den L ρ = slv q n cap := by rfl) (hs : scBlks ρ.length blks = true := by rfl) :
    DenM P R Dn (.ext p ⟨.call ⟨.builtin .cap, as, #[t]⟩, ty, [sv]⟩ (.int .i64) blks k) L ρ c m A := .extM hs fun g w hw => by
  refine ⟨.int .i64 cap, w, none, m, [.i (cap : Nat)], ?_, ⟨rfl, rfl, rfl, Nat.le_refl _, fun _ _ _ => rfl⟩, fun _ h => (by cases h), fun _ _ _ => rfl, hw.hold.2, fun _ => rfl, ⟨_, rfl⟩, ?_, hk⟩
  · show (builtin .cap #[t] ty (as.map fun | .const _ => true | _ => false) #[sv.den L ρ]).run P w = _
    rw [hv, slv_eq]
    simp [builtin, Builtin.cap_, run_underlying ht, goInt]
  · simp only [Sh.fresh, SV.den, IT.eval]; rw [int_at]
theorem DenM.growNil {p : Bool} {as : Array Operand} {t tn ty e : TypeId} {size bytes : Nat} {kn kq : IntKind} {sv xv : SV} {k : Tree} (n : Nat) (hE : El P t e size bytes) (htn : P.underlying tn = some (.int kn)) (h0 : 0 < n) (h63 : n ≤ maxLen) (h48 : n * bytes ≤ 281474976710656)
    (hk : ∀ g cap' m', m g = none → n ≤ cap' → Row m' e size (some ⟨g, 0, none⟩) cap' 0 [] → (∀ b, m b ≠ none → m' b = m b) → DenM P R Dn k L (ρ ++ [.p (some ⟨g, 0, none⟩), .i (n : Nat), .i (cap' : Nat)]) c m' A)
    (hv : sv.den L ρ = slv none 0 0 := by rfl) (hxv : xv.den L ρ = .int kq n := by rfl) (hs : scBlks ρ.length blks = true := by rfl) :
    DenM P R Dn (.ext p ⟨.call ⟨.builtin .append, as, #[t, tn]⟩, ty, [sv, xv]⟩ .sl blks k) L ρ c m A := .extM hs fun g w hw => by
  obtain ⟨i, z, hi, hz, hsz, hby, hzs⟩ := hE.info
  have hpos := hE.pos
  have hr := Lib.run_append_nil_zeros (P := P) w t tn ty e i z kq kn hE.und htn hi hz n h0 (by omega) (by unfold maxLen at h63; omega) (by rw [hby]; exact h48)
  have hlt : ∀ b, m b ≠ none → b < w.heap.size := fun b hb => (HW.mem m).inb w b hw.hold.2 hb
  have hmn : m w.heap.size = none := by
    cases h : m w.heap.size with
    | none => rfl
    | some o => have := hlt w.heap.size (by rw [h]; simp); omega
  have hge := grownCap_ge w n 0 e
  have hle := grownCap_le_maxLen w n 0 e h63
  generalize grownCap w n 0 e = cap' at *
  obtain ⟨obj, hobj⟩ : ∃ obj, obj = Obj.cells (Builtin.zeroCells z.cells n ++ Builtin.zeroCells z.cells (cap' - n)) e (0, 0) := ⟨_, rfl⟩
  refine ⟨_, w.drew.alloc obj, none, m.upd w.heap.size obj, [.p (some ⟨w.heap.size, 0, none⟩), .i (n : Nat), .i (cap' : Nat)], ?_, ?_, fun _ h => (by cases h), fun b hb _ => Mem.upd_other _ _ (by omega), fun b o hb => ?_, fun _ => rfl, ⟨_, _, _, rfl⟩, ((slv_fresh ρ L (some ⟨w.heap.size, 0, none⟩) n cap').trans (slv_eq _ _ _)).symm, hk w.heap.size cap' _ hmn hge ⟨by simp, .inr ⟨w.heap.size, _, rfl, by rw [hobj]; exact Mem.upd_same _ _ _, Nat.zero_le _, hle, ?_, by simp⟩⟩ fun b hb => Mem.upd_other _ _ fun e => by have := hlt b hb; omega⟩
  · show (builtin .append #[t, tn] ty (as.map fun | .const _ => true | _ => false) #[sv.den L ρ, xv.den L ρ]).run P w = _
    rw [hv, hxv, slv_eq, hobj]
    show (do pure (Next.value (← Builtin.append_ #[t, tn] ty #[.slice none 0 0, .int kq n])) : Sem Next).run P w = _
    rw [Sem.run_bind, hr]; rfl
  · have hgb := World.grownBy_alloc w.drew obj none
    exact ⟨rfl, rfl, rfl, hgb.size, hgb.block⟩
  · by_cases e' : b = w.heap.size
    · rw [e', Mem.upd_same] at hb; cases hb; rw [e']; exact heap_alloc_new w.drew _
    · rw [Mem.upd_other _ _ e'] at hb
      have := hlt b (by rw [hb]; simp)
      exact (heap_alloc_old w.drew _ b this).trans (hw.hold.2 b o hb)
  · rw [Array.size_append, size_zeroCells, size_zeroCells, hzs, ← Nat.add_mul]; congr 1; omega
end
end Go.Sy
