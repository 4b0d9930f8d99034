/- Functions that are ranged over: contracts out of their trees; what stands around a yield; a range inside them. -/
import Derived.Test.YtedfogpnmpmggaaDoorPf
set_option linter.unusedSimpArgs false
set_option linter.unusedVariables false
namespace Go.Sy
open Go Go.RowKit
/-- What all worlds read at a cell is one's own. -/
theorem own_of_reads {hT : HW} {b o : Nat} {v : Value} (hw : ∃ w, hT.H w) (h : ∀ w, hT.H w → w.cell? ⟨b, o, none⟩ = some v) : hT.own b := by
  refine Classical.byContradiction fun hn => ?_
  obtain ⟨w, hw⟩ := hw
  have h1 := h w hw
  have h2 := h _ (hT.stab w (w.setRow b #[]) hw (by simp) (fun k hk => setRow_other _ _ _ _ fun e => hn (e ▸ hk)) rfl rfl rfl)
  have hlt := World.block_lt_of_cell? w ⟨b, o, none⟩ h1
  unfold World.cell? at h1
  simp only at h1
  split at h1
  · rename_i cs e fr hb
    have h3 := setRow_heap w b cs #[] e fr hb
    unfold World.cell? at h2
    simp only [h3] at h2
    simp at h2
  · cases h1
/-- What stands around a yield, and how it reads. -/
def Cx.inside (hT : HW) (S : Mv) (hw : ∃ w, hT.H w) (hS : ∀ w, hT.H w → S.le (Mv.of w)) : Cx where
  hb := hT
  R := S
  ok w b o v := fun h hv => hS w h b o v hv
  own b o v := fun hv => own_of_reads hw fun w h => hS w h b o v hv
/-- How an iterator ends. -/
def REnd (n : Nat) (J : Nat → HW → Prop) (E : HW → Prop) : Value → HW → Prop := fun _ h' => ∃ hT : HW, (∀ w, h'.H w → hT.H w) ∧ (∀ b, hT.own b → h'.own b) ∧ (J n hT ∨ E hT)
section
variable {P : Program}
/-- An iterator, out of its tree. -/
theorem Iter.of {gf : FuncId} {shs : List Sh} {t : Tree} (hS : FnIs P gf shs t) (hmix : P.follows .mixedOrders = true) {lb : Array Value} {mf : Mem} {S : Mv} {xs : List (List Value)} (cap : List U)
    (hargs : ∀ yv, SV.dens [] (.v yv :: cap) (Sh.freshs shs 0).1 = yv :: lb.toList) (hus : ∀ yv, Value.oneCell' yv = true → Sh.eats shs (.v yv :: cap) = some [])
    (hd : ∀ (yv : Value) (J : Nat → HW → Prop) (E : HW → Prop), yv.oneCell' = true → YieldOk P yv xs J E → (∀ k h w, J k h → h.H w → S.le (Mv.of w)) → ∀ h (hw : ∃ w, h.H w) (hJ : J 0 h), Disj h (HW.mem mf) →
      DenM P (REnd xs.length J E) (fun _ _ _ => False) t [] (.v yv :: cap) (Cx.around h) mf []) : Iter P gf lb (fun w => S.le (Mv.of w)) (HW.mem mf) xs := by
  intro yv J E h w hyv hy hpre hJ hh hf hdj
  obtain ⟨fn, ann, fuel, hfn, ht⟩ := hS
  have key := fn_sound hfn hmix ht (us := .v yv :: cap) (usOk_of (hus yv hyv)) (args := yv :: lb.toList) (hargs yv) (h := h.sep (HW.mem mf)) (w := w) ⟨hh, hf⟩ (R := REnd xs.length J E)
    (hd yv J E hyv hy hpre h ⟨w, hh⟩ hJ hdj ⟨fun k hk ho => hdj k ho hk, by simp, List.nodup_nil⟩)
  have he : (yv :: lb.toList).toArray = #[yv] ++ lb := by rw [show (yv :: lb.toList) = [yv] ++ lb.toList from rfl]; simp
  rw [he] at key
  refine key.mono ?_
  rintro e w' ⟨v, rfl, h', hH', hg, hT, h1, h2, h3⟩
  exact ⟨⟨v, rfl⟩, hT, h1 w' hH', ⟨hg.size, fun k hk hn => ⟨fun ho => (hg.same k hk hn).1 (h2 k ho), (hg.same k hk hn).2⟩, hg.tape, hg.os, hg.output⟩, h3⟩
end
section
variable {P : Program} {L : List Nat} {ρ : Env} {blks : List Blk} {m : Mem} {R : Value → HW → Prop} {Dn : Nat → List U → HW → Prop} {A : List (List U → HW → Prop)}
theorem cx_hw_inside {hT : HW} {S : Mv} {hw : ∃ w, hT.H w} {hS : ∀ w, hT.H w → S.le (Mv.of w)} : (Cx.inside hT S hw hS).hw m = hT.sep (HW.mem m) := rfl
theorem good_of_disj {hT : HW} {S : Mv} {hw : ∃ w, hT.H w} {hS : ∀ w, hT.H w → S.le (Mv.of w)} (hd : Disj hT (HW.mem m)) : Good (Cx.inside hT S hw hS) [] m := ⟨fun k hk ho => hd k ho hk, by simp, List.nodup_nil⟩
/-- Out of what stands around, as it reads. -/
theorem DenM.into {hT : HW} {S : Mv} {t : Tree} (hw : ∃ w, hT.H w) (hS : ∀ w, hT.H w → S.le (Mv.of w)) (h : DenM P R Dn t L ρ (Cx.inside hT S hw hS) m A) : DenM P R Dn t L ρ (Cx.around hT) m A := fun g => h ⟨g.mem, g.blk, g.nd⟩
theorem DenM.out {hT : HW} {S : Mv} {t : Tree} {hw : ∃ w, hT.H w} {hS : ∀ w, hT.H w → S.le (Mv.of w)} (h : DenM P R Dn t L ρ (Cx.around hT) m A) : DenM P R Dn t L ρ (Cx.inside hT S hw hS) m A := fun g => h ⟨g.mem, g.blk, g.nd⟩
/-- The next of the list is yielded. -/
theorem DenM.yield {c : Cx} {f : SV} {args : List SV} {k : Tree} {yv : Value} {xs : List (List Value)} {J : Nat → HW → Prop} {E : HW → Prop} {q : Nat} {x : List Value} (hy : YieldOk P yv xs J E) (hJ : J q c.hb) (hx : xs[q]? = some x)
    (ht : ∀ hT' (_ : ∃ w, hT'.H w), J (q + 1) hT' → DenM P R Dn k L (ρ ++ [.b true]) (Cx.around hT') m A) (he : ∀ hT', E hT' → DenM P R Dn k L (ρ ++ [.b false]) (Cx.around hT') m A)
    (hf : f.den L ρ = yv := by rfl) (hargs : SV.dens L ρ args = x := by rfl) (hs : scBlks ρ.length blks = true := by rfl) :
    DenM P R Dn (.callv false f args .bool blks k) L ρ c m A := fun g => by
  intro w hw
  rw [hf, hargs]
  refine CallV.mono ?_ (hy q x c.hb w hx hJ hw.hold.1)
  rintro v w' ⟨hT', hH, hg, hor⟩
  have hd : Disj c.hb (HW.mem m) := fun b ho hb => g.mem b hb ho
  have hmem := hg.keeps hw.hold.2 hd.symm
  have hkeep : ∀ b ∈ L, w'.heap[b]? = w.heap[b]? ∧ ¬ hT'.own b := fun b hb => by
    have := hg.same b (hw.lt b hb) (fun ho => hw.good b hb (.inl ho))
    exact ⟨this.2, this.1⟩
  have hgood : Good (Cx.around hT') L m := ⟨fun b hb ho => hmem.2 b hb ho, fun b hb => ⟨(g.blk b hb).1, (hkeep b hb).2⟩, g.nd⟩
  have hwd : Wd L ρ blks (hT'.sep (HW.mem m)) w' := ⟨hw.len, fun j k hj => ((hkeep _ (getD_mem (by rw [hw.len]; exact (List.getElem?_eq_some_iff.1 hj).1))).1).trans (hw.blk j k hj), hw.nd, fun b hb ho => by
    rcases ho with ho | ho
    · exact (hkeep b hb).2 ho
    · exact hw.good b hb (.inr ho), hH, hmem.1⟩
  have hgr : ∀ us, Grow (kw L ρ blks (c.hw m)) w (kw L (ρ ++ us) blks (hT'.sep (HW.mem m))) w' := fun us => ⟨hg.size, fun i hi hn => by
    have h1 := hg.same i hi (fun ho => hn (.inl (.inl ho)))
    refine ⟨fun ho => ?_, h1.2⟩
    rcases ho with (ho | ho) | ho
    · exact h1.1 ho
    · exact hn (.inl (.inr ho))
    · exact hn (.inr ho), hg.tape, hg.os, hg.output⟩
  rcases hor with ⟨rfl, hJ'⟩ | ⟨rfl, hE⟩
  · refine ⟨[.b true], _, ⟨true, rfl⟩, ?_, hgr _, fun h => (by cases h), (Wd.letters hs).2 hwd, ht hT' ⟨w', hH⟩ hJ' hgood⟩
    simp only [Sh.fresh, SV.den, BT.eval]; rw [bool_at]
  · refine ⟨[.b false], _, ⟨false, rfl⟩, ?_, hgr _, fun h => (by cases h), (Wd.letters hs).2 hwd, he hT' hE hgood⟩
    simp only [Sh.fresh, SV.den, BT.eval]; rw [bool_at]
/-- The end of an iterator. -/
theorem DenM.stop {c : Cx} {x : SV} {n : Nat} {J : Nat → HW → Prop} {E : HW → Prop} (h : J n c.hb ∨ E c.hb) : DenM P (REnd n J E) Dn (.ret x blks) L ρ c m A := fun _ =>
  ⟨c.hw m, fun _ hw => hw.hold, fun _ hb => .inl hb, c.hb, fun _ hw => hw.1, fun _ hb => .inl hb, h⟩
/-- What is around may change while ways part and meet again: I says what is around, too. -/
def inY (I : List U → Mem → HW → Prop) : List U → HW → Prop := fun us h => ∃ (hT : HW) (m : Mem), Disj hT (HW.mem m) ∧ h = hT.sep (HW.mem m) ∧ I us m hT
theorem DenM.joinY {c : Cx} {lvl : Nat} {shs : List Sh} {head : List Blk} {t k : Tree} (I : List U → Mem → HW → Prop) (ht : DenM P R Dn t L ρ c m (A.take lvl ++ [inY I]))
    (hk : ∀ us m' hT, UsOk shs us → I us m' hT → (∃ w, hT.H w) → DenM P R Dn k L (ρ ++ us) (Cx.around hT) m' A) : DenM P R Dn (.join lvl shs head t k) L ρ c m A := fun g => by
  refine ⟨inY I, ht g, ?_⟩
  rintro us _ hus ⟨hT, m', hm', rfl, hI⟩ ⟨w, hw⟩
  exact hk us m' hT hus hI ⟨w, hw.hold.1⟩ ⟨fun b hb ho => hm' b ho hb, fun b hb' => ⟨by
    cases hm : m' b with
    | none => rfl
    | some o => exact absurd (Or.inr (by show m' b ≠ none; rw [hm]; simp)) (hw.good b hb'), fun ho => hw.good b hb' (.inl ho)⟩, hw.nd⟩
theorem DenM.loopY {c : Cx} {lvl : Nat} {shs : List Sh} {vals : List SV} {head : List Blk} {body : Tree} (I : Nat → List U → Mem → HW → Prop) (n0 : Nat) (h0 : I n0 (Sh.uss L ρ shs vals) m c.hb)
    (hb : ∀ n us m' hT, UsOk shs us → I n us m' hT → (∃ w, hT.H w) → DenM P R Dn body L (ρ ++ us) (Cx.around hT) m' (A.take lvl ++ [inY fun us' m'' hT' => ∃ n', n' < n ∧ I n' us' m'' hT'])) : DenM P R Dn (.loop lvl shs vals blks head body) L ρ c m A := fun g => by
  refine ⟨fun n => inY (I n), n0, ⟨c.hb, m, fun b ho hb => g.mem b hb ho, rfl, h0⟩, ?_⟩
  rintro n us _ hus ⟨hT, m', hm', rfl, hI⟩ ⟨w, hw⟩
  have := hb n us m' hT hus hI ⟨w, hw.hold.1⟩ ⟨fun b hb ho => hm' b ho hb, fun b hb' => ⟨by
    cases hm : m' b with
    | none => rfl
    | some o => exact absurd (Or.inr (by show m' b ≠ none; rw [hm]; simp)) (hw.good b hb'), fun ho => hw.good b hb' (.inl ho)⟩, hw.nd⟩
  have he : (fun us' h' => ∃ m', m' < n ∧ inY (I m') us' h') = inY fun us' m'' hT' => ∃ n', n' < n ∧ I n' us' m'' hT' := by
    funext us' h'
    apply propext
    constructor
    · rintro ⟨n', hn', hT', m2, q1, q2, q3⟩; exact ⟨hT', m2, q1, q2, n', hn', q3⟩
    · rintro ⟨hT', m2, q1, q2, n', hn', q3⟩; exact ⟨n', hn', hT', m2, q1, q2, q3⟩
  rw [he]
  exact this
theorem DenM.againY {c : Cx} {lvl nb : Nat} {shs : List Sh} {vals : List SV} {I : List U → Mem → HW → Prop} (hA : A[lvl]? = some (inY I)) (hI : I (Sh.uss L ρ shs vals) m c.hb) : DenM P R Dn (.again lvl nb shs vals blks) L ρ c m A :=
  fun g => ⟨c.hw m, fun _ hw => hw.hold, fun _ h => .inl h, _, hA, c.hb, m, fun b ho hb => g.mem b hb ho, rfl, hI⟩
theorem DenM.leaveY {c : Cx} {n nb : Nat} {shs : List Sh} {vals : List SV} {I : Nat → List U → Mem → HW → Prop} (hI : I n (Sh.uss L ρ shs vals) m c.hb) : DenM P R (fun n => inY (I n)) (.leave n nb shs vals blks) L ρ c m A :=
  fun g => ⟨c.hw m, fun _ hw => hw.hold, fun _ h => .inl h, c.hb, m, fun b ho hb => g.mem b hb ho, rfl, hI⟩
/-- Memory without what another has. -/
def Mem.minus (m mf : Mem) : Mem := fun b => match mf b with | some _ => none | none => m b
theorem Mem.minus_join {m mf : Mem} (h : ∀ b o, mf b = some o → m b = some o) : m = (m.minus mf).join mf := by
  funext b
  show m b = match (match mf b with | some _ => none | none => m b : Option Obj) with | some o => some o | none => mf b
  cases hf : mf b with
  | none => dsimp only; cases m b <;> rfl
  | some o => exact h b o hf
theorem Mem.minus_none {m mf : Mem} (b : Nat) (h : m.minus mf b ≠ none) : mf b = none := by
  unfold Mem.minus at h
  cases hf : mf b with
  | none => rfl
  | some o => rw [hf] at h; exact absurd rfl h
theorem Mem.minus_at {m mf : Mem} {b : Nat} (h : mf b = none) : m.minus mf b = m b := by unfold Mem.minus; rw [h]
/-- A range over a function, where what is around may change in the rounds (yields). S: how the function's world reads. -/
theorem DenM.rangeY {c : Cx} {f : SV} {psh shs : List Sh} {vals : List SV} {head : List Blk} {body rest : Tree} (gf : FuncId) (lb : Array Value) (xs : List (List U)) (S : Mv) (mf : Mem) (I E : Nat → List U → Mem → HW → Prop)
    (hfv : f.den L ρ = .func (.func gf) #[] lb) (hgf : goodFn P gf = true) (hmf : ∀ b o, mf b = some o → m b = some o) (hxs : ∀ ux ∈ xs, Sh.eats psh ux = some [])
    (hiter : Iter P gf lb (fun w => S.le (Mv.of w)) (HW.mem mf) (xs.map fun ux => SV.dens [] ux (Sh.freshs psh 0).1)) (h0 : I 0 (Sh.uss L ρ shs vals) (m.minus mf) c.hb)
    (hpre : ∀ k us m' hT w, I k us m' hT → Wd L (ρ ++ us) head (hT.sep (HW.mem m')) w → S.le (Mv.of w))
    (hbody : ∀ k us ux m' hT, UsOk shs us → xs[k]? = some ux → I k us m' hT → (∃ w, hT.H w) → DenM P (fun _ _ => False) (fun n => inY fun us' m'' hT' => (n = 0 ∧ I (k + 1) us' m'' hT') ∨ (n ≠ 0 ∧ E n us' m'' hT')) body L (ρ ++ us ++ ux) (Cx.around hT) m' [])
    (hend : ∀ us m' hT, UsOk shs us → I xs.length us m' hT → (∃ w, hT.H w) → DenM P R Dn rest L (ρ ++ us ++ [.i 0]) (Cx.around hT) m' A)
    (hleft : ∀ n us m' hT, n ≠ 0 → UsOk shs us → E n us m' hT → (∃ w, hT.H w) → DenM P R Dn rest L (ρ ++ us ++ [.i (n : Nat)]) (Cx.around hT) m' A) : DenM P R Dn (.range f psh shs vals blks head body rest) L ρ c m A := fun g => by
  have hm0 : ∀ b, m.minus mf b ≠ none → m b ≠ none := fun b hb => by rw [Mem.minus_at (Mem.minus_none b hb)] at hb; exact hb
  have hmf' : ∀ b, mf b ≠ none → m b ≠ none := fun b hb => by
    cases h : mf b with
    | none => exact absurd h hb
    | some o => rw [hmf b o h]; simp
  have good : ∀ us m' hT, Disj hT (HW.mem m') → (∃ w, Wd L (ρ ++ us) head (hT.sep (HW.mem m')) w) → Good (Cx.around hT) L m' ∧ ∃ w, hT.H w := fun us m' hT h1 ⟨w, hw⟩ => ⟨⟨fun b hb ho => h1 b ho hb, fun b hb' => ⟨by
    cases hm : m' b with
    | none => rfl
    | some o => exact absurd (Or.inr (by show m' b ≠ none; rw [hm]; simp)) (hw.good b hb'), fun ho => hw.good b hb' (.inl ho)⟩, hw.nd⟩, w, hw.hold.1⟩
  refine ⟨gf, lb, xs, fun w => S.le (Mv.of w), HW.mem mf, c.hb.sep (HW.mem (m.minus mf)), fun k => inY (I k), fun k => inY (E k), hfv, fun args w => run_callFunc hgf args w, fun w hw => ⟨⟨hw.hold.1, fun b o hb => ?_⟩, fun b o hb => hw.hold.2 b o (hmf b o hb)⟩, fun b hb => ?_, fun b hb => .inr (hmf' b hb), fun b h1 h2 => ?_, fun ux hx => usOk_of (hxs ux hx), hiter, ⟨c.hb, _, fun b ho hb => g.mem b (hm0 b hb) ho, rfl, h0⟩, ?_, ?_, ?_, ?_⟩
  · exact hw.hold.2 b o (by rw [Mem.minus_at (Mem.minus_none b (by rw [hb]; simp))] at hb; exact hb)
  · rcases hb with hb | hb
    · exact .inl hb
    · exact .inr (hm0 b hb)
  · rcases h1 with h1 | h1
    · exact g.mem b (hmf' b h2) h1
    · exact h2 (Mem.minus_none b h1)
  · rintro k us _ w ⟨hT, m', _, rfl, hI⟩ hw
    exact hpre k us m' hT w hI hw
  · rintro k us ux _ hus hx ⟨hT, m', hm', rfl, hI⟩ hw
    have he : (fun (n : Nat) us' h' => (n = 0 ∧ inY (I (k + 1)) us' h') ∨ (n ≠ 0 ∧ inY (E n) us' h')) = fun n => inY fun us' m'' hT' => (n = 0 ∧ I (k + 1) us' m'' hT') ∨ (n ≠ 0 ∧ E n us' m'' hT') := by
      funext n us' h'
      apply propext
      constructor
      · rintro (⟨q, hT', m2, q1, q2, q3⟩ | ⟨q, hT', m2, q1, q2, q3⟩)
        · exact ⟨hT', m2, q1, q2, .inl ⟨q, q3⟩⟩
        · exact ⟨hT', m2, q1, q2, .inr ⟨q, q3⟩⟩
      · rintro ⟨hT', m2, q1, q2, ⟨q, q3⟩ | ⟨q, q3⟩⟩
        · exact .inl ⟨q, hT', m2, q1, q2, q3⟩
        · exact .inr ⟨q, hT', m2, q1, q2, q3⟩
    rw [he]
    obtain ⟨g', hw'⟩ := good us m' hT hm' hw
    exact hbody k us ux m' hT hus hx hI hw' g'
  · rintro us _ hus ⟨hT, m', hm', rfl, hI⟩ hw
    obtain ⟨g', hw'⟩ := good us m' hT hm' hw
    exact hend us m' hT hus hI hw' g'
  · rintro n us _ hn hus ⟨hT, m', hm', rfl, hE⟩ hw
    obtain ⟨g', hw'⟩ := good us m' hT hm' hw
    exact hleft n us m' hT hn hus hE hw' g'
end
end Go.Sy
