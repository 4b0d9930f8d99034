/- What the tree says is enough: the function returns, and what it returns is as the tree says. -/
import Derived.Test.YtkhcfbdjmpodbaaDoorSyLet
import Derived.RangeFuncRecord
import Derived.Below
set_option linter.unusedSimpArgs false
set_option linter.unusedVariables false
namespace Go.Sy
open Go

def CallV (P : Program) (f : Value) (args : Array Value) (w : World) (K : Value → World → Prop) : Prop :=
  (∃ g as w1, (do let d ← Deferred.ofValue f args; invoke d.target d.args).run P w = .ok (.enter g as) w1 ∧ Calls P g as w1 fun e w' => ∃ v, e = .returned v ∧ K v w') ∨
  (∃ l g tmps assign body w1, (do let d ← Deferred.ofValue f args; invoke d.target d.args).run P w = .ok (.round l g tmps assign body) w1 ∧
    RoundIn Fence.wide 0 P l g tmps assign body w1 fun e w' => ∃ v, e = .returned v ∧ K v w')

def HW.sep (S T : HW) : HW where
  H w := S.H w ∧ T.H w
  own b := S.own b ∨ T.own b
  stab w w' := fun ⟨h1, h2⟩ hs hk ht ho hu => ⟨S.stab w w' h1 hs (fun b hb => hk b (.inl hb)) ht ho hu, T.stab w w' h2 hs (fun b hb => hk b (.inr hb)) ht ho hu⟩
  inb w b := fun ⟨h1, h2⟩ hb => hb.elim (S.inb w b h1) (T.inb w b h2)
def YieldOk (P : Program) (yv : Value) (xs : List (List Value)) (J : Nat → HW → Prop) (E : HW → Prop) : Prop :=
  ∀ k x h w, xs[k]? = some x → J k h → h.H w → CallV P yv x.toArray w fun v w' => ∃ h', h'.H w' ∧ Grow h w h' w' ∧ ((v = .bool true ∧ J (k + 1) h') ∨ (v = .bool false ∧ E h'))
def Iter (P : Program) (g : FuncId) (lb : Array Value) (pre : World → Prop) (hf : HW) (xs : List (List Value)) : Prop :=
  ∀ (yv : Value) (J : Nat → HW → Prop) (E : HW → Prop) (h : HW) (w : World), yv.oneCell' = true → YieldOk P yv xs J E → (∀ k h w, J k h → h.H w → pre w) → J 0 h → h.H w → hf.H w → Disj h hf →
    Calls P g (#[yv] ++ lb) w fun e w' => (∃ v, e = .returned v) ∧ ∃ h', h'.H w' ∧ Grow (h.sep hf) w h' w' ∧ (J xs.length h' ∨ E h')
def HW.nil : HW where
  H _ := True
  own _ := False
  stab _ _ := fun _ _ _ _ _ _ => trivial
  inb _ _ := fun _ h => h.elim
theorem HW.sep_nil (h : HW) : h.sep .nil = h := HW.eq (funext fun _ => propext ⟨fun q => q.1, fun q => ⟨q, trivial⟩⟩) (funext fun _ => propext ⟨fun q => q.elim id False.elim, .inl⟩)
def YieldX (P : Program) (yv : Value) (X : Nat → List Value → HW → Prop) (J : Nat → HW → Prop) (E : HW → Prop) : Prop :=
  ∀ k x h hx w, X k x hx → J k h → h.H w → hx.H w → Disj h hx → CallV P yv x.toArray w fun v w' => ∃ h', h'.H w' ∧ Grow (h.sep hx) w h' w' ∧ (∀ w, h'.H w → hx.H w) ∧ ((v = .bool true ∧ J (k + 1) h') ∨ (v = .bool false ∧ E h'))
def IterX (P : Program) (g : FuncId) (lb : Array Value) (pre : World → Prop) (hf : HW) (N : Nat) (X : Nat → List Value → HW → Prop) : Prop :=
  ∀ (yv : Value) (J : Nat → HW → Prop) (E : HW → Prop) (h : HW) (w : World), yv.oneCell' = true → YieldX P yv X J E → (∀ k h w, J k h → h.H w → pre w) → J 0 h → h.H w → hf.H w → Disj h hf →
    Calls P g (#[yv] ++ lb) w fun e w' => (∃ v, e = .returned v) ∧ ∃ h', h'.H w' ∧ Grow (h.sep hf) w h' w' ∧ (J N h' ∨ E h')
theorem Iter.toX {P : Program} {g : FuncId} {lb : Array Value} {pre : World → Prop} {hf : HW} {xs : List (List Value)} {X : Nat → List Value → HW → Prop} (hX : ∀ (k : Nat) x, xs[k]? = some x → X k x .nil) (h : Iter P g lb pre hf xs) : IterX P g lb pre hf xs.length X := fun yv J E hh w h1 h2 h3 h4 h5 h6 h7 =>
  h yv J E hh w h1 (fun k x T W hx hJ hT => by
    have := h2 k x T .nil W (hX k x hx) hJ hT trivial fun _ _ q => q
    rw [HW.sep_nil] at this
    rcases this with ⟨g, as, w1, q1, q2⟩ | ⟨l, g, t, as, bd, w1, q1, q2⟩
    · exact .inl ⟨g, as, w1, q1, q2.mono fun e w' ⟨v, he, T', a1, a2, _, a4⟩ => ⟨v, he, T', a1, a2, a4⟩⟩
    · exact .inr ⟨l, g, t, as, bd, w1, q1, q2.mono fun e w' ⟨v, he, T', a1, a2, _, a4⟩ => ⟨v, he, T', a1, a2, a4⟩⟩) h3 h4 h5 h6 h7
def marks (l : List Nat) : List Deferred := l.map fun d => { target := .collected d, args := #[] }
def Blks (L : List Nat) (ρ : Env) (blks : List Blk) (w : World) : Prop := ∀ (j : Nat) b, blks[j]? = some b → w.heap[L.getD j 0]? = some (.cells (SV.dens L ρ b.cells).toArray b.elem (0, 0))
theorem getD_mem {L : List Nat} {j : Nat} (h : j < L.length) : L.getD j 0 ∈ L := by
  simp only [List.getD, List.getElem?_eq_getElem h, Option.getD_some]; exact List.getElem_mem h
theorem Wd.lt {L : List Nat} {ρ : Env} {blks : List Blk} {h : HW} {w : World} (hw : Wd L ρ blks h w) : ∀ b ∈ L, b < w.heap.size := fun b hb => by
  obtain ⟨j, hj, rfl⟩ := List.getElem_of_mem hb
  have hj' : j < blks.length := by rw [← hw.len]; exact hj
  have := hw.blk j _ (List.getElem?_eq_getElem hj')
  have := (Array.getElem?_eq_some_iff.1 this).1
  simpa [List.getD, hj] using this
def kw (L : List Nat) (ρ : Env) (blks : List Blk) (h : HW) : HW where
  H := Wd L ρ blks h
  own b := h.own b ∨ b ∈ L
  stab w w' := fun hw hs hk ht ho hu => ⟨hw.len, fun j b hj => (hk _ (.inr (getD_mem (by rw [hw.len]; exact (List.getElem?_eq_some_iff.1 hj).1)))).trans (hw.blk j b hj), hw.nd, hw.good, h.stab w w' hw.hold hs (fun b hb => hk b (.inl hb)) ht ho hu⟩
  inb w b := fun hw hb => hb.elim (h.inb w b hw.hold) (hw.lt b)
section
variable (P : Program)
def den : (Value → HW → Prop) → (Nat → List U → HW → Prop) → Tree → List Nat → Env → HW → List (List U → HW → Prop) → Prop
  | _, _, .bad _, _, _, _, _ => False
  | R, _, .ret v blks, L, ρ, h, _ => ∃ h2 : HW, (∀ w, Wd L ρ blks h w → h2.H w) ∧ (∀ b, h2.own b → h.own b ∨ b ∈ L) ∧ R (v.den L ρ) h2
  | R, Dn, .ite c t e, L, ρ, h, A => (c.eval ρ = true → den R Dn t L ρ h A) ∧ (c.eval ρ = false → den R Dn e L ρ h A)
  | R, Dn, .chk c k, L, ρ, h, A => c.eval ρ = true ∧ den R Dn k L ρ h A
  | R, Dn, .alloc k, L, ρ, h, A => ∀ b, b ∉ L → ¬ h.own b → den R Dn k (L ++ [b]) ρ h A
  | R, Dn, .allocc t cs k, L, ρ, h, A => ∀ b, b ∉ L → ¬ h.own b → den R Dn k L (ρ ++ [.p (some ⟨b, 0, none⟩)]) (h.add b (.cells (SV.dens L ρ cs).toArray t (0, 0))) A
  | R, Dn, .allocb t n k, L, ρ, h, A => ∀ b, b ∉ L → ¬ h.own b → den R Dn k L (ρ ++ [.p (some ⟨b, 0, none⟩)]) (h.add b (.cells (bigCells P t n).toArray t (0, 0))) A
  | R, Dn, .makev e bytes l c k, L, ρ, h, A => ∃ n m : Nat, l.eval ρ = n ∧ c.eval ρ = m ∧ n ≤ m ∧ bytes * m ≤ 281474976710656 ∧ m ≤ 9223372036854775807 ∧ ∀ b, b ∉ L → ¬ h.own b → den R Dn k L (ρ ++ [.p (some ⟨b, 0, none⟩), .i n, .i m]) (h.add b (.cells (bigCells P e (some m)).toArray e (0, 0))) A
  | R, Dn, .apart xs blks k, L, ρ, h, A => (∀ x ∈ xs, ∀ ad : Addr, x.den L ρ = .pointer (some ad) → ad.block ∉ L ∧ ∀ w, Wd L ρ blks h w → ∃ cur e f, w.heap[ad.block]? = some (.cells cur e f)) ∧ den R Dn k L ρ h A
  | R, Dn, .load i off sh blks k, L, ρ, h, A => ∃ us, UsOk sh us ∧ (∀ w, Wd L ρ blks h w → cellsAt w (atAddr ρ i (off.eval ρ)) (SV.dens L (ρ ++ us) (Sh.freshs sh ρ.length).1)) ∧ den R Dn k L (ρ ++ us) h A
  | R, Dn, .store p i off cells blks k, L, ρ, h, A => ∀ w, Wd L ρ blks h w → ∃ b o cur e, atAddr ρ i (off.eval ρ) = some ⟨b, o, none⟩ ∧ w.heap[b]? = some (.cells cur e (0, 0)) ∧ o + cells.length ≤ cur.size ∧ h.own b ∧
      ∃ h' : HW, (∀ b, h'.own b → h.own b) ∧ (p = true → ∀ w, Wd L ρ blks h' w → Wd L ρ blks h w) ∧ h'.H (w.setRow b (putAt cur.toList o (SV.dens L ρ cells)).toArray) ∧ den R Dn k L ρ h' A
  | R, Dn, .call p f args sh blks k, L, ρ, h, A => ∀ w, Wd L ρ blks h w → Calls P f (SV.dens L ρ args).toArray w fun e w' => ∃ v, e = .returned v ∧
      ∃ us h', UOk sh us ∧ v = (sh.fresh ρ.length).1.den L (ρ ++ us) ∧ Grow (kw L ρ blks h) w (kw L (ρ ++ us) blks h') w' ∧ (p = true → ∀ w, Wd L (ρ ++ us) blks h' w → Wd L ρ blks h w) ∧ Wd L (ρ ++ us) blks h' w' ∧ den R Dn k L (ρ ++ us) h' A
  | R, Dn, .callv p f args sh blks k, L, ρ, h, A => ∀ w, Wd L ρ blks h w → CallV P (f.den L ρ) (SV.dens L ρ args).toArray w fun v w' =>
      ∃ us h', UOk sh us ∧ v = (sh.fresh ρ.length).1.den L (ρ ++ us) ∧ Grow (kw L ρ blks h) w (kw L (ρ ++ us) blks h') w' ∧ (p = true → ∀ w, Wd L (ρ ++ us) blks h' w → Wd L ρ blks h w) ∧ Wd L (ρ ++ us) blks h' w' ∧ den R Dn k L (ρ ++ us) h' A
  | R, Dn, .ext p x sh blks k, L, ρ, h, A => ∀ w, Wd L ρ blks h w → ∃ v w', (XOp.sem x.op x.type (SV.dens L ρ x.args)).run P w = .ok (.value v) w' ∧
      ∃ us h', UOk sh us ∧ v = (sh.fresh ρ.length).1.den L (ρ ++ us) ∧ Grow (kw L ρ blks h) w (kw L (ρ ++ us) blks h') w' ∧ (p = true → ∀ w, Wd L (ρ ++ us) blks h' w → Wd L ρ blks h w) ∧ Wd L (ρ ++ us) blks h' w' ∧ den R Dn k L (ρ ++ us) h' A
  | R, Dn, .extp x sh blks k, L, ρ, h, A => ∃ us, UOk sh us ∧ (∀ w, Wd L ρ blks h w → (XOp.sem x.op x.type (SV.dens L ρ x.args)).run P w = .ok (.value ((sh.fresh ρ.length).1.den L (ρ ++ us))) w) ∧ den R Dn k L (ρ ++ us) h A
  | R, Dn, .extu p x blks k, L, ρ, h, A => ∀ w, Wd L ρ blks h w → ∃ w', (XOp.sem x.op x.type (SV.dens L ρ x.args)).run P w = .ok .skip w' ∧
      ∃ h', Grow (kw L ρ blks h) w (kw L ρ blks h') w' ∧ (p = true → ∀ w, Wd L ρ blks h' w → Wd L ρ blks h w) ∧ Wd L ρ blks h' w' ∧ den R Dn k L ρ h' A
  | R, Dn, .exk x sh blks r k, L, ρ, h, A => ∀ w, Wd L ρ blks h w → ∃ v w', (XOp.sem x.op x.type (SV.dens L ρ x.args)).run P w = .ok (.value v) w' ∧
      ∃ us h', UOk sh us ∧ v = (sh.fresh ρ.length).1.den L (ρ ++ us) ∧ Grow (kw L ρ blks h) w (kw L (ρ ++ us) blks h') w' ∧ KeptOp P (XOp.sem r.op r.type (SV.dens L ρ r.args)) (kw L ρ blks h) (kw L (ρ ++ us) blks h') ∧ Wd L (ρ ++ us) blks h' w' ∧ den R Dn k L (ρ ++ us) h' A
  | R, Dn, .nxt p x shs blks kT kF, L, ρ, h, A => ∀ w, Wd L ρ blks h w → ∃ v w', (XOp.sem x.op x.type (SV.dens L ρ x.args)).run P w = .ok (.value v) w' ∧
      ((∃ us h', UsOk shs us ∧ v = .tuple (Value.bool true :: SV.dens L (ρ ++ us) (Sh.freshs shs ρ.length).1).toArray ∧ Grow (kw L ρ blks h) w (kw L (ρ ++ us) blks h') w' ∧ (p = true → ∀ w, Wd L (ρ ++ us) blks h' w → Wd L ρ blks h w) ∧ Wd L (ρ ++ us) blks h' w' ∧ den R Dn kT L (ρ ++ us) h' A) ∨
       (∃ h', v = .tuple #[.bool false] ∧ Grow (kw L ρ blks h) w (kw L ρ blks h') w' ∧ (p = true → ∀ w, Wd L ρ blks h' w → Wd L ρ blks h w) ∧ Wd L ρ blks h' w' ∧ den R Dn kF L ρ h' A))
  | R, Dn, .join lvl shs head t k, L, ρ, h, A => ∃ I : List U → HW → Prop, den R Dn t L ρ h (A.take lvl ++ [I]) ∧ ∀ us h1, UsOk shs us → I us h1 → (∃ w, Wd L (ρ ++ us) head h1 w) → den R Dn k L (ρ ++ us) h1 A
  | R, Dn, .loop lvl shs vals _ head body, L, ρ, h, A => ∃ (I : Nat → List U → HW → Prop) (m0 : Nat), I m0 (Sh.uss L ρ shs vals) h ∧
      ∀ m us h1, UsOk shs us → I m us h1 → (∃ w, Wd L (ρ ++ us) head h1 w) → den R Dn body L (ρ ++ us) h1 (A.take lvl ++ [fun us' h' => ∃ m', m' < m ∧ I m' us' h'])
  | _, _, .again lvl nb shs vals blks, L, ρ, h, A => ∃ h2 : HW, (∀ w, Wd L ρ blks h w → h2.H w) ∧ (∀ b, h2.own b → h.own b ∨ b ∈ L.drop nb) ∧ ∃ I, A[lvl]? = some I ∧ I (Sh.uss L ρ shs vals) h2
  | _, Dn, .leave c nb shs vals blks, L, ρ, h, _ => ∃ h2 : HW, (∀ w, Wd L ρ blks h w → h2.H w) ∧ (∀ b, h2.own b → h.own b ∨ b ∈ L.drop nb) ∧ Dn c (Sh.uss L ρ shs vals) h2
  | R, Dn, .range f psh shs vals blks head body rest, L, ρ, h, A => ∃ (gf : FuncId) (lb : Array Value) (N : Nat) (X : Nat → List U → HW → Prop) (pre : World → Prop) (hf h0 : HW) (I E : Nat → List U → HW → Prop),
      f.den L ρ = .func (.func gf) #[] lb ∧ (∀ args w, (callFunc gf args).run P w = .ok (.enter gf args) w) ∧
      (∀ w, Wd L ρ blks h w → h0.H w ∧ hf.H w) ∧ (∀ b, h0.own b → h.own b) ∧ (∀ b, hf.own b → h.own b) ∧ Disj h0 hf ∧ (∀ k ux hx, X k ux hx → UsOk psh ux) ∧
      IterX P gf lb pre hf N (fun k x hx => ∃ ux, X k ux hx ∧ x = SV.dens [] ux (Sh.freshs psh 0).1) ∧ I 0 (Sh.uss L ρ shs vals) h0 ∧ (∀ k us h1 w, I k us h1 → Wd L (ρ ++ us) head h1 w → pre w) ∧
      (∀ k us ux h1 hx, UsOk shs us → X k ux hx → I k us h1 → Disj h1 hx → (∃ w, Wd L (ρ ++ us) head (h1.sep hx) w) → den (fun _ _ => False) (fun c us' h' => (∀ w, h'.H w → hx.H w) ∧ ((c = 0 ∧ I (k + 1) us' h') ∨ (c ≠ 0 ∧ E c us' h'))) body L (ρ ++ us ++ ux) (h1.sep hx) []) ∧
      (∀ us h1, UsOk shs us → I N us h1 → (∃ w, Wd L (ρ ++ us) head h1 w) → den R Dn rest L (ρ ++ us ++ [.i 0]) h1 A) ∧ (∀ c us h1, c ≠ 0 → UsOk shs us → E c us h1 → (∃ w, Wd L (ρ ++ us) head h1 w) → den R Dn rest L (ρ ++ us ++ [.i (c : Nat)]) h1 A)
end

structure Fr (L : List Nat) (ρ : Env) (D : List Deferred) (tmps : List SV) (a : Act) : Prop where
  size : a.tmps.size = tmps.length
  df : a.defers = D
  tm : ∀ (i : Nat) x, tmps[i]? = some x → ∃ v, a.tmps[i]? = some v ∧ Rel L ρ x v
theorem Fr.ev {L : List Nat} {ρ : Env} {D : List Deferred} {st : St} {a : Act} (h : Fr L ρ D st.tmps a) (x : Operand) : Rel L ρ (st.ev x) (a.eval x) := by
  cases x with
  | tmp t =>
    simp only [St.ev, Act.eval]
    cases hx : st.tmps[t]? with
    | none =>
      have : a.tmps[t]? = none := by rw [Array.getElem?_eq_none_iff, h.size]; exact List.getElem?_eq_none_iff.1 hx
      right
      simp [List.getD, hx, this, SV.den]
    | some y =>
      obtain ⟨v, hv, hr⟩ := h.tm t y hx
      simpa [List.getD, hx, hv] using hr
  | const v => right; simp [St.ev, Act.eval, ofValue_den]
  | global g => right; rfl
  | func f => right; rfl
theorem Fr.put {L : List Nat} {ρ : Env} {D : List Deferred} {st : St} {a : Act} (h : Fr L ρ D st.tmps a) (d : Option Tmp) {x : SV} {v : Value} (hv : Rel L ρ x v) : Fr L ρ D (st.put d x).tmps (a.put d v) := by
  cases d with
  | none => exact h
  | some d =>
    refine ⟨by simp [St.put, Act.put, h.size], by simp [Act.put, h.df], fun i y hy => ?_⟩
    simp only [St.put] at hy
    simp only [Act.put]
    rw [List.getElem?_set] at hy
    split at hy
    · rename_i e; subst e
      split at hy
      · rename_i hlt
        cases hy
        exact ⟨v, by simp [h.size, hlt], hv⟩
      · cases hy
    · rename_i hne
      obtain ⟨u, hu, hr⟩ := h.tm i y hy
      exact ⟨u, by rw [Array.getElem?_setIfInBounds_ne hne]; exact hu, hr⟩
theorem Fr.subst {L : List Nat} {ρ : Env} {D : List Deferred} {st : St} {a : Act} (h : Fr L ρ D st.tmps a) {c : BT} {b : Bool} (hc : c.eval ρ = b) : Fr L ρ D (st.subst c b).tmps a := by
  refine ⟨by simp [St.subst, h.size], h.df, fun i y hy => ?_⟩
  simp only [St.subst, List.getElem?_map, Option.map_eq_some_iff] at hy
  obtain ⟨x, hx, rfl⟩ := hy
  obtain ⟨v, hv, hr⟩ := h.tm i x hx
  refine ⟨v, hv, ?_⟩
  unfold substFn
  split
  · rename_i d
    refine Rel.subst (b := !b) ?_ x hr
    simp only [BT.eval] at hc
    rw [← hc]; simp
  · exact Rel.subst hc x hr
theorem Rel.more {L L' : List Nat} {ρ ρ' : Env} {nb nv : Nat} (hρ : EqUpTo nv ρ ρ') (hL : EqLoc nb L L') {x : SV} {v : Value} (hs : x.sc nb nv = true) (h : Rel L ρ x v) : Rel L' ρ' x v :=
  h.imp id fun e => by rw [e, SV.sc_den hρ hL x hs]

def boolOf : Value → Option Bool
  | .bool b => some b
  | _ => none
theorem yielded_eq {ops : Array Oper} {j d : Nat} {tmps : Array Value} {v : Value} (hd : (ops[j]?).bind (·.dst) = some d) (hv : tmps.getD d Go.undef = v) :
    yielded ops tmps j = boolOf v := by
  unfold yielded
  rw [hd]
  simp only [Option.bind_some]
  subst hv
  cases h : tmps[d]? with
  | none => simp [Go.undef, h, boolOf]
  | some v => simp [h]; cases v <;> rfl
theorem guardOf_sound {L : List Nat} {ρ : Env} {D : List Deferred} {st : St} {a : Act} {ops : Array Oper} {o : Oper} {g : BT} (h : Fr L ρ D st.tmps a) (hg : guardOf st ops o = some g) :
    Region.wanted o (yielded ops a.tmps) = g.eval ρ := by
  unfold guardOf at hg
  unfold Region.wanted
  cases ho : o.guard with
  | none => simp only [ho] at hg; cases hg; rfl
  | some jw =>
    obtain ⟨j, want⟩ := jw
    simp only [ho] at hg ⊢
    cases hd : (ops[j]?).bind (·.dst) with
    | none => simp only [hd] at hg; cases hg; simp [yielded, hd, BT.eval]
    | some d =>
      simp only [hd] at hg
      have hr := h.ev (.tmp d)
      simp only [St.ev, Act.eval] at hr
      split at hg
      · rename_i c e
        rw [e] at hr
        have hv := hr.of_ne (by simp)
        rw [yielded_eq hd hv]
        simp only [SV.den, boolOf]
        cases want <;> simp at hg <;> subst hg <;> simp [BT.mkNot_eval] <;> cases c.eval ρ <;> rfl
      · rename_i d' c e
        rw [e] at hr
        have hv := hr.of_ne (by simp)
        rw [yielded_eq hd hv]
        simp only [SV.den]
        cases hg
        rw [BT.mkAnd_eval]
        cases hd' : d'.eval ρ
        · simp [Go.undef, boolOf]
        · cases want <;> simp [BT.mkNot_eval, boolOf] <;> cases c.eval ρ <;> rfl
      · rename_i e
        rw [e] at hr
        have hv := hr.of_ne (by simp)
        rw [yielded_eq hd hv]
        cases hg
        simp [SV.den, Go.undef, BT.eval, boolOf]
      · cases hg

theorem scs_mem {nb nv : Nat} : ∀ {l : List SV}, SV.scs nb nv l = true → ∀ x ∈ l, x.sc nb nv = true
  | [], _, x, hx => by cases hx
  | y :: l, h, x, hx => by
    simp only [SV.scs, Bool.and_eq_true] at h
    rcases List.mem_cons.1 hx with rfl | hx
    · exact h.1
    · exact scs_mem h.2 x hx
theorem Fr.more {L L' : List Nat} {ρ ρ' : Env} {D : List Deferred} {tmps : List SV} {a : Act} {nb nv : Nat} (hρ : EqUpTo nv ρ ρ') (hL : EqLoc nb L L') (hs : SV.scs nb nv tmps = true) (h : Fr L ρ D tmps a) : Fr L' ρ' D tmps a :=
  ⟨h.size, h.df, fun i x hx => let ⟨v, hv, hr⟩ := h.tm i x hx; ⟨v, hv, Rel.more hρ hL (scs_mem hs x (List.mem_of_getElem? hx)) hr⟩⟩
theorem blk_more {L L' : List Nat} {ρ ρ' : Env} {blks : List Blk} {nv : Nat} (hρ : EqUpTo nv ρ ρ') (hL : EqLoc blks.length L L') (hs : scBlks nv blks = true) {w : World}
    (h : ∀ (j : Nat) b, blks[j]? = some b → w.heap[L.getD j 0]? = some (.cells (SV.dens L ρ b.cells).toArray b.elem (0, 0))) :
    ∀ (j : Nat) b, blks[j]? = some b → w.heap[L'.getD j 0]? = some (.cells (SV.dens L' ρ' b.cells).toArray b.elem (0, 0)) := by
  intro j b hb
  have hj : j < blks.length := (List.getElem?_eq_some_iff.1 hb).1
  have hc := List.all_eq_true.1 hs b (List.mem_of_getElem? hb)
  rw [← hL j hj, ← SV.scs_den hρ hL b.cells hc]
  exact h j b hb
theorem Wd.letters {L : List Nat} {ρ : Env} {us : List U} {blks : List Blk} {h : HW} {w : World} (hs : scBlks ρ.length blks = true) : Wd L (ρ ++ us) blks h w ↔ Wd L ρ blks h w := by
  constructor
  · intro hw
    exact ⟨hw.len, blk_more (nv := ρ.length) (fun i hi => (EqUpTo.append' ρ us i hi).symm) (EqLoc.refl _ _) hs hw.blk, hw.nd, hw.good, hw.hold⟩
  · intro hw
    exact ⟨hw.len, blk_more (nv := ρ.length) (EqUpTo.append' ρ us) (EqLoc.refl _ _) hs hw.blk, hw.nd, hw.good, hw.hold⟩
theorem kw_letters {L : List Nat} {ρ : Env} {us : List U} {blks : List Blk} {h : HW} (hs : scBlks ρ.length blks = true) : kw L (ρ ++ us) blks h = kw L ρ blks h :=
  HW.eq (funext fun _ => propext (Wd.letters hs)) rfl

theorem xop_norm (op : Op) (ty : TypeId) (vs : List Value) (P : Program) (w : World) : (XOp.sem (XOp.norm op) ty vs).run P w = (XOp.sem op ty vs).run P w := by
  cases op <;> first | rfl | skip
  case call c =>
    obtain ⟨callee, args, ats⟩ := c
    cases callee <;> first | rfl | (rename_i x; cases x <;> rfl) | skip
    simp only [XOp.norm, XOp.sem, Array.map_map]
    congr 2
    apply Array.map_congr_left
    intro x _
    cases x <;> rfl
  case slice t x lo hi mx => cases lo <;> cases hi <;> cases mx <;> rfl
  case makeMap t r => cases r <;> rfl
  case binOp op t x y z =>
    simp only [XOp.norm, XOp.sem]
    have h2 : ∀ u v, eqGuard op t (normO x) (normO y) u v = eqGuard op t x y u v := fun u v => by
      cases x <;> cases y <;> rfl
    rw [h2]
theorem xop_sound {a : Act} {o : Oper} (hk : XOp.known o.op = true) (P : Program) (w : World) : (execOp a.eval o).run P w = (XOp.sem (XOp.norm o.op) o.type (o.op.operands.toList.map a.eval)).run P w := by
  rw [xop_norm]
  obtain ⟨dst, op, ty, pos, after, guard⟩ := o
  cases op <;> first | (simp [XOp.known] at hk; done) | skip
  case call c =>
    obtain ⟨callee, args, ats⟩ := c
    cases callee <;> first | (simp [XOp.known] at hk; done) | skip
    case value x =>
      cases x <;> first | (simp [XOp.known] at hk; done) | skip
      simp only [execOp, XOp.sem, resolve, Op.operands, Call.operands, Sem.run_bind, Sem.run_pure, Result.andThen_ok]
      simp [Act.eval, Deferred.ofValue, invoke]
      rw [show (List.map a.eval args.toList).toArray = Array.map a.eval args by apply Array.ext'; simp]
    simp only [execOp, XOp.sem, resolve, Op.operands, Call.operands, invoke, Sem.run_bind, Sem.run_pure, Result.andThen_ok]
    congr 2
    apply Array.ext'
    simp
  case slice t x lo hi mx =>
    cases lo <;> cases hi <;> cases mx <;> rfl
  case makeMap t r =>
    cases r <;> rfl
  all_goals rfl

theorem freshs_length : ∀ (sh : List Sh) (n : Nat), (Sh.freshs sh n).1.length = sh.length
  | [], _ => rfl
  | s :: l, n => by simp [Sh.freshs, freshs_length l]
section doop
variable {C : Cfg} {R : Value → HW → Prop} {Dn : Nat → List U → HW → Prop} {next : Task → St → Tree} {st : St} {ops : Array Oper} {o : Oper} {fr : Bool} {p : Nat} {again then_ : Task}
  {L : List Nat} {ρ : Env} {h : HW} {A : List (List U → HW → Prop)} {D : List Deferred} {a : Act}

def After (C : Cfg) (R : Value → HW → Prop) (Dn : Nat → List U → HW → Prop) (next : Task → St → Tree) (then_ : Task) (L : List Nat) (ρ : Env) (A : List (List U → HW → Prop)) (D : List Deferred) (S : HW) (a : Act) : Prop :=
  ∃ st' L' ρ' h', S = kw L' ρ' st'.blks h' ∧ den C.P R Dn (next then_ st') L' ρ' h' A ∧ ρ'.length = st'.nv ∧ EnvOk ρ' ∧ (∃ l, L' = L ++ l) ∧ (∃ u, ρ' = ρ ++ u) ∧ Fr L' ρ' D st'.tmps a
theorem put_blks (st : St) (d : Option Tmp) (x : SV) : (st.put d x).blks = st.blks := by cases d <;> rfl
theorem put_nv (st : St) (d : Option Tmp) (x : SV) : (st.put d x).nv = st.nv := by cases d <;> rfl
theorem ev_args {g : BT} (hg : g.eval ρ = true) (hfr : Fr L ρ D st.tmps a) {l : List Operand} (hf : (l.map fun x => (st.ev x).under g).all SV.firm = true) : l.map a.eval = SV.dens L ρ (l.map fun x => (st.ev x).under g) := by
  rw [SV.dens_eq, List.map_map]
  refine List.map_congr_left fun x hx => ?_
  have h1 := List.all_eq_true.1 hf _ (List.mem_map_of_mem hx)
  exact (Rel.under hg _ (hfr.ev x)).firm h1


theorem den_split {c : BT} (hd : den C.P R Dn (splitT next st again c) L ρ h A) : ∃ b, c.eval ρ = b ∧ den C.P R Dn (next again (st.subst c b)) L ρ h A := by
  cases hc : c.eval ρ
  · exact ⟨false, rfl, hd.2 hc⟩
  · exact ⟨true, rfl, hd.1 hc⟩
theorem den_sure {g : BT} {t : Tree} (hd : den C.P R Dn (sureT next st ops o again g t) L ρ h A) :
    (g = .lit true ∧ den C.P R Dn t L ρ h A) ∨ ∃ c b, c.eval ρ = b ∧ den C.P R Dn (next again (st.subst c b)) L ρ h A := by
  unfold sureT at hd
  split at hd
  · rename_i e; exact .inl ⟨e, hd⟩
  · exact .inr ⟨_, den_split hd⟩
theorem den_sc {t : Tree} (hd : den C.P R Dn (scT st t) L ρ h A) : scSt st = true ∧ den C.P R Dn t L ρ h A := by
  unfold scT at hd
  split at hd
  · rename_i e; exact ⟨e, hd⟩
  · exact hd.elim
theorem den_firm {l : List SV} {t : Tree} (hd : den C.P R Dn (firmT l t) L ρ h A) : l.all SV.firm = true ∧ den C.P R Dn t L ρ h A := by
  unfold firmT at hd
  split at hd
  · rename_i e; exact ⟨e, hd⟩
  · exact hd.elim
theorem scSt_spec (hs : scSt st = true) (hlen : ρ.length = st.nv) : scBlks ρ.length st.blks = true ∧ SV.scs st.blks.length ρ.length st.tmps = true := by
  simpa [scSt, hlen] using hs

/-! ### Shapes' letters, wherever they stand -/
theorem val_at (ρ : Env) (us : List U) (v : Value) : Env.val (ρ ++ (.v v :: us)) ρ.length = v := by simp [Env.val]
theorem int_at (ρ : Env) (us : List U) (v : Int) : Env.int (ρ ++ (.i v :: us)) ρ.length = v := by simp [Env.int]
theorem bool_at (ρ : Env) (us : List U) (v : Bool) : Env.bool (ρ ++ (.b v :: us)) ρ.length = v := by simp [Env.bool]
mutual
theorem letters_shift {L L' : List Nat} : ∀ (s : Sh) (u : List U), UOk s u → ∀ (ρ0 ρ1 ρ0' ρ1' : Env), (s.fresh ρ0.length).1.den L (ρ0 ++ (u ++ ρ1)) = (s.fresh ρ0'.length).1.den L' (ρ0' ++ (u ++ ρ1'))
  | .int k, u, h, ρ0, ρ1, ρ0', ρ1' => by obtain ⟨n, rfl⟩ := h; simp only [Sh.fresh, SV.den, IT.eval, List.cons_append, int_at]
  | .bool, u, h, ρ0, ρ1, ρ0', ρ1' => by obtain ⟨n, rfl⟩ := h; simp only [Sh.fresh, SV.den, BT.eval, List.cons_append, bool_at]
  | .val, u, h, ρ0, ρ1, ρ0', ρ1' => by obtain ⟨n, rfl, _⟩ := h; simp only [Sh.fresh, SV.den, List.cons_append, val_at]
  | .ptr, u, h, ρ0, ρ1, ρ0', ρ1' => by obtain ⟨n, rfl⟩ := h; simp only [Sh.fresh, SV.den, IT.eval, List.cons_append, atAddr, env_ptr_at]
  | .sl, u, h, ρ0, ρ1, ρ0', ρ1' => by obtain ⟨p, a, b, rfl⟩ := h; simp only [Sh.fresh, SV.den, IT.eval, List.cons_append, atAddr, env_ptr_at, env_int_at1, env_int_at2]
  | .agg l, u, h, ρ0, ρ1, ρ0', ρ1' => by
    simp only [Sh.fresh, SV.den]; exact congrArg (fun x : List Value => Value.agg x.toArray) (letters_shifts (L := L) (L' := L') l u h ρ0 ρ1 ρ0' ρ1')
  | .tup l, u, h, ρ0, ρ1, ρ0', ρ1' => by
    simp only [Sh.fresh, SV.den]; exact congrArg (fun x : List Value => Value.tuple x.toArray) (letters_shifts (L := L) (L' := L') l u h ρ0 ρ1 ρ0' ρ1')
theorem letters_shifts {L L' : List Nat} : ∀ (s : List Sh) (u : List U), UsOk s u → ∀ (ρ0 ρ1 ρ0' ρ1' : Env), SV.dens L (ρ0 ++ (u ++ ρ1)) (Sh.freshs s ρ0.length).1 = SV.dens L' (ρ0' ++ (u ++ ρ1')) (Sh.freshs s ρ0'.length).1
  | [], u, h, ρ0, ρ1, ρ0', ρ1' => rfl
  | s :: l, u, h, ρ0, ρ1, ρ0', ρ1' => by
    obtain ⟨u1, u2, rfl, h1, h2⟩ := h
    have e1 := letters_shift (L := L) (L' := L') s u1 h1 ρ0 (u2 ++ ρ1) ρ0' (u2 ++ ρ1')
    have e2 := letters_shifts (L := L) (L' := L') l u2 h2 (ρ0 ++ u1) ρ1 (ρ0' ++ u1) ρ1'
    simp only [List.length_append, List.append_assoc] at e1 e2
    simp only [Sh.freshs, SV.dens, fresh_len s u1 _ h1, List.append_assoc, e1, e2]
end
/-! ### A further block -/
theorem kw_add {blks : List Blk} (hs : scBlks ρ.length blks = true) (hLb : L.length = blks.length) {b : Nat} {k : Blk} (hk : SV.scs blks.length ρ.length k.cells = true) (hb1 : b ∉ L) (hb2 : ¬ h.own b) :
    (kw L ρ blks h).add b (.cells (SV.dens L ρ k.cells).toArray k.elem (0, 0)) = kw (L ++ [b]) ρ (blks ++ [k]) h := by
  have hloc : EqLoc blks.length L (L ++ [b]) := by rw [← hLb]; exact EqLoc.append' L _
  have hold : ∀ (j : Nat), j < blks.length → (L ++ [b]).getD j 0 = L.getD j 0 := fun j hj => (hloc j hj).symm
  have hnew : (L ++ [b]).getD blks.length 0 = b := by rw [← hLb]; simp [List.getD]
  refine HW.eq (funext fun w => propext ⟨fun ⟨hw, hc⟩ => ?_, fun hw => ?_⟩) (funext fun i => propext ?_)
  · refine ⟨by simp [hw.len], fun j q hq => ?_, ?_, fun x hx => ?_, hw.hold⟩
    · rcases Nat.lt_or_ge j blks.length with hj | hj
      · rw [List.getElem?_append_left hj] at hq
        exact blk_more (EqUpTo.refl _ _) hloc hs hw.blk j q hq
      · rw [List.getElem?_append_right hj] at hq
        have hj0 : j - blks.length = 0 := by
          rcases Nat.eq_zero_or_pos (j - blks.length) with h0 | h0
          · exact h0
          · rw [List.getElem?_eq_none (by simp; omega)] at hq; cases hq
        rw [hj0] at hq; cases hq
        have hje : j = blks.length := by omega
        rw [hje, hnew, hc, SV.scs_den (L' := L ++ [b]) (EqUpTo.refl _ _) hloc k.cells hk]
    · rw [List.nodup_append]
      refine ⟨hw.nd, by simp, fun x hx y hy => ?_⟩
      simp at hy; subst hy; rintro rfl; exact hb1 hx
    · rcases List.mem_append.1 hx with hx | hx
      · exact hw.good x hx
      · simp at hx; subst hx; exact hb2
  · refine ⟨⟨hLb, fun j q hq => ?_, (List.nodup_append.1 hw.nd).1, fun x hx => hw.good x (List.mem_append_left _ hx), hw.hold⟩, ?_⟩
    · have hj := (List.getElem?_eq_some_iff.1 hq).1
      have h1 := hw.blk j q (by rw [List.getElem?_append_left hj]; exact hq)
      have hc := List.all_eq_true.1 hs q (List.mem_of_getElem? hq)
      rw [hold j hj, ← SV.scs_den (EqUpTo.refl _ _) hloc q.cells hc] at h1
      exact h1
    · have h1 := hw.blk blks.length k (by simp)
      rw [hnew, ← SV.scs_den (EqUpTo.refl _ _) hloc k.cells hk] at h1
      exact h1
  · simp only [HW.add, kw, List.mem_append, List.mem_singleton]
    constructor
    · rintro ((h1 | h1) | h1)
      · exact .inl h1
      · exact .inr (.inl h1)
      · exact .inr (.inr h1)
    · rintro (h1 | h1 | h1)
      · exact .inl (.inl h1)
      · exact .inl (.inr h1)
      · exact .inr h1
theorem kw_big {blks : List Blk} {us : List U} (hs : scBlks ρ.length blks = true) {b : Nat} {o : Obj} (hb1 : b ∉ L) : (kw L ρ blks h).add b o = kw L (ρ ++ us) blks (h.add b o) := by
  rw [kw_letters hs]
  refine HW.eq (funext fun w => propext ⟨fun ⟨hw, hc⟩ => ?_, fun hw => ?_⟩) (funext fun i => propext ?_)
  · refine ⟨hw.len, hw.blk, hw.nd, fun x hx h1 => ?_, hw.hold, hc⟩
    rcases h1 with h1 | rfl
    · exact hw.good x hx h1
    · exact hb1 hx
  · exact ⟨⟨hw.len, hw.blk, hw.nd, fun x hx h1 => hw.good x hx (.inl h1), hw.hold.1⟩, hw.hold.2⟩
  · simp only [HW.add, kw]
    exact or_right_comm

theorem Wd.upd {blks : List Blk} {w : World} (hw : Wd L ρ blks h w) {b off : Nat} {cs : List SV} {blk : Blk} (hb : blks[b]? = some blk) :
    Wd L ρ (blks.modify b fun q => { q with cells := putAt q.cells off cs }) h (w.setRow (L.getD b 0) (putAt (SV.dens L ρ blk.cells) off (SV.dens L ρ cs)).toArray) := by
  have hbl : b < L.length := by rw [hw.len]; exact (List.getElem?_eq_some_iff.1 hb).1
  refine ⟨by simp [hw.len], fun j q hq => ?_, hw.nd, hw.good, ?_⟩
  · rw [List.getElem?_modify] at hq
    by_cases hj : b = j
    · subst hj
      simp only [hb, if_true, Option.map_eq_map, Option.map_some, Option.some.injEq] at hq
      subst hq
      rw [setRow_heap _ _ _ _ _ _ (hw.blk b blk hb), dens_putAt]
    · simp only [if_neg hj, Option.map_eq_map, Option.map_eq_some_iff] at hq
      obtain ⟨q', hq', rfl⟩ := hq
      have hjl : j < L.length := by rw [hw.len]; exact (List.getElem?_eq_some_iff.1 hq').1
      rw [setRow_other _ _ _ _ ?_]
      · exact hw.blk j q' hq'
      · intro e
        simp only [List.getD, List.getElem?_eq_getElem hjl, List.getElem?_eq_getElem hbl, Option.getD_some] at e
        have hpw := List.pairwise_iff_getElem.1 hw.nd
        rcases Nat.lt_or_gt_of_ne hj with hlt | hlt
        · exact hpw b j hbl hjl hlt e.symm
        · exact hpw j b hjl hbl hlt e
  · refine h.stab w _ hw.hold (by simp) (fun k hk => setRow_other _ _ _ _ fun e => hw.good _ (getD_mem hbl) (e ▸ hk)) rfl rfl rfl
theorem Wd.upd_grow {blks blks' : List Blk} {w : World} {b : Nat} {vs : Array Value} (hb : b < L.length) : Grow (kw L ρ blks h) w (kw L ρ blks' h) (w.setRow (L.getD b 0) vs) :=
  ⟨by simp, fun k _ hn => ⟨hn, setRow_other _ _ _ _ fun e => hn (.inr (e ▸ getD_mem hb))⟩, rfl, rfl, rfl⟩
theorem Wd.store {blks : List Blk} {h' : HW} {w : World} {b : Nat} {vs : Array Value} (hw : Wd L ρ blks h w) (hb : h.own b) (ho : ∀ b, h'.own b → h.own b) (hH : h'.H (w.setRow b vs)) :
    Wd L ρ blks h' (w.setRow b vs) ∧ Grow (kw L ρ blks h) w (kw L ρ blks h') (w.setRow b vs) := by
  refine ⟨⟨hw.len, fun j q hq => ?_, hw.nd, fun x hx h1 => hw.good x hx (ho x h1), hH⟩, ⟨by simp, fun k _ hn => ⟨fun h1 => hn (h1.imp (ho k) id), setRow_other _ _ _ _ fun e => hn (.inl (e ▸ hb))⟩, rfl, rfl, rfl⟩⟩
  rw [setRow_other _ _ _ _ ?_]
  · exact hw.blk j q hq
  · intro e
    refine hw.good _ (getD_mem ?_) (e ▸ hb)
    rw [hw.len]; exact (List.getElem?_eq_some_iff.1 hq).1

theorem pendMask_bit {P : Program} {st : St} {i : Nat} (hi : p.testBit i = true) (hlt : i < ops.size) (hl : isLocRead P st ops i = false) : (pendMask P st ops p).testBit i = true := by
  unfold pendMask
  rw [if_neg (by rintro rfl; simp at hi)]
  have : ∀ (l : List Nat) (m : Nat), (i ∈ l ∨ m.testBit i = true) → (l.foldl (fun m i => if p.testBit i && !isLocRead P st ops i then m ||| 2 ^ i else m) m).testBit i = true := by
    intro l
    induction l with
    | nil => intro m h; simpa using h
    | cons x l ih =>
      intro m h
      rw [List.foldl_cons]
      refine ih _ ?_
      rcases h with h | h
      · rcases List.mem_cons.1 h with rfl | h
        · right; rw [hi, hl]; simp [Nat.testBit_or, Nat.testBit_two_pow]
        · exact .inl h
      · right
        split
        · simp [Nat.testBit_or, h]
        · exact h
  exact this _ _ (.inl (List.mem_range.2 hlt))
theorem loc_kept {i : Nat} {oi : Oper} {S S' : HW} (hfr : Fr L ρ D st.tmps a) (hoi : ops[i]? = some oi) (hl : isLocRead C.P st ops i = true) (hS : ∀ w, S.H w → ∃ h'', Wd L ρ st.blks h'' w) (hS' : ∀ w, S'.H w → ∃ h'', Wd L ρ st.blks h'' w) : KeptOp C.P (execOp a.eval oi) S S' := by
  unfold isLocRead at hl
  rw [hoi] at hl
  simp only at hl
  split at hl
  · rename_i t x hop
    split at hl
    · rename_i b' off' hev
      cases hb' : st.blks[b']? with
      | none => rw [hb'] at hl; cases hl
      | some blk' =>
        rw [hb'] at hl
        obtain ⟨y, hy⟩ := Option.isSome_iff_exists.1 hl
        have hx := hfr.ev x
        rw [hev] at hx
        have hvx := hx.of_ne (by simp)
        have key : ∀ (h'' : HW) (W : World), Wd L ρ st.blks h'' W → (execOp a.eval oi).run C.P W = .ok (.value (y.den L ρ)) W := fun h'' W hW => by
          obtain ⟨dst, op, ty, pos, after, guard⟩ := oi
          simp only at hop
          subst hop
          refine run_value ?_
          simp only [Instr.loadAt, hvx, SV.den, Instr.sureAddr, Sem.run_bind, Sem.run_pure, Result.andThen_ok]
          exact partS_cells hy (hW.blk b' blk' hb')
        exact .inl ⟨_, fun w hw => (hS w hw).elim fun h'' h => key h'' w h, fun w hw => (hS' w hw).elim fun h'' h => key h'' w h⟩
    · cases hl
  · cases hl
theorem pendC_spec {q : Oper} (h : pendC ops p = some q) {i : Nat} (hi : p.testBit i = true) : ops[i]? = some q ∧ XOp.known q.op = true := by
  unfold pendC at h
  simp only [Option.bind_eq_some_iff] at h
  obtain ⟨o, ho, h⟩ := h
  split at h
  · rename_i hp
    rw [hp, Nat.testBit_two_pow, decide_eq_true_eq] at hi
    split at h
    · rename_i hop
      cases h
      exact ⟨by rw [← hi]; exact ho, by rw [hop]; rfl⟩
    · rename_i hop
      cases h
      exact ⟨by rw [← hi]; exact ho, by rw [hop]; rfl⟩
    · cases h
  · cases h
theorem kept_upd {b off : Nat} {cs : List SV} {blk : Blk} (hfr : Fr L ρ D st.tmps a) (hLb : L.length = st.blks.length) (hb : st.blks[b]? = some blk) (hok : okKeep C.P st ops p b = true) :
    ∀ i, p.testBit i = true → ∀ oi, ops[i]? = some oi → KeptOp C.P (execOp a.eval oi) (kw L ρ st.blks h) (kw L ρ (st.blks.modify b fun q => { q with cells := putAt q.cells off cs }) h) := fun i hi oi hoi => .inr fun w' hw' => by
  have hbl : b < L.length := by rw [hLb]; exact (List.getElem?_eq_some_iff.1 hb).1
  have h1 := List.all_eq_true.1 hok i (List.mem_range.2 (Array.getElem?_eq_some_iff.1 hoi).1)
  rw [hi, hoi] at h1
  simp only [Bool.not_true, Bool.false_or] at h1
  have hne : ∀ {j : Nat}, j < L.length → j ≠ b → L.getD j 0 ≠ L.getD b 0 := fun {j} hjl hj e => by
    simp only [List.getD, List.getElem?_eq_getElem hjl, List.getElem?_eq_getElem hbl, Option.getD_some] at e
    have hpw := List.pairwise_iff_getElem.1 hw'.nd
    rcases Nat.lt_or_gt_of_ne hj with hlt | hlt
    · exact hpw j b hjl hbl hlt e
    · exact hpw b j hbl hjl hlt e.symm
  have hB : L.getD b 0 < w'.heap.size := hw'.lt _ (getD_mem hbl)
  let w : World := { w' with heap := w'.heap.setIfInBounds (L.getD b 0) (.cells (SV.dens L ρ blk.cells).toArray blk.elem (0, 0)) }
  have hother : ∀ k, k ≠ L.getD b 0 → w.heap[k]? = w'.heap[k]? := fun k hk => Array.getElem?_setIfInBounds_ne (Ne.symm hk)
  have hw : Wd L ρ st.blks h w := by
    refine ⟨hLb, fun j q hq => ?_, hw'.nd, hw'.good, h.stab w' w hw'.hold (by simp [w]) (fun k hk => hother k fun e => hw'.good _ (getD_mem hbl) (e ▸ hk)) rfl rfl rfl⟩
    by_cases hj : j = b
    · subst hj
      rw [hb] at hq; cases hq
      show (w'.heap.setIfInBounds _ _)[_]? = _
      rw [Array.getElem?_setIfInBounds_self, if_pos hB]
    · have hjl : j < L.length := by rw [hLb]; exact (List.getElem?_eq_some_iff.1 hq).1
      rw [hother _ (hne hjl hj)]
      exact hw'.blk j q (by rw [List.getElem?_modify, hq]; simp [Ne.symm hj])
  refine ⟨w, hw, fun k o hk ho => (hother k fun e => hk (.inr (e ▸ getD_mem hbl))).trans ho, fun v hv => ?_⟩
  split at h1
  · rename_i t x hop
    split at h1
    · rename_i b' off' hev
      simp only [Bool.and_eq_true, bne_iff_ne, ne_eq] at h1
      obtain ⟨hbb, h2⟩ := h1
      cases hb' : st.blks[b']? with
      | none => rw [hb'] at h2; cases h2
      | some blk' =>
        rw [hb'] at h2
        obtain ⟨y, hy⟩ := Option.isSome_iff_exists.1 h2
        have hx := hfr.ev x
        rw [hev] at hx
        have hvx := hx.of_ne (by simp)
        have key : ∀ W : World, W.heap[L.getD b' 0]? = some (.cells (SV.dens L ρ blk'.cells).toArray blk'.elem (0, 0)) → (execOp a.eval oi).run C.P W = .ok (.value (y.den L ρ)) W := fun W hW => by
          obtain ⟨dst, op, ty, pos, after, guard⟩ := oi
          simp only at hop
          subst hop
          refine run_value ?_
          simp only [Instr.loadAt, hvx, SV.den, Instr.sureAddr, Sem.run_bind, Sem.run_pure, Result.andThen_ok]
          exact partS_cells hy hW
        have hbl' : b' < L.length := by rw [hLb]; exact (List.getElem?_eq_some_iff.1 hb').1
        have hq := hw.blk b' blk' hb'
        have e1 := hv.symm.trans (key w hq)
        rw [hother _ (hne hbl' hbb)] at hq
        have e2 := key w' hq
        simp only [Result.ok.injEq, Next.value.injEq, and_true] at e1
        rw [e1]; exact e2
    · cases h1
  · cases h1

theorem farPtrs_spec {P : Program} {st : St} {b : Nat} {xs : List SV} (h : farPtrs P st ops p b = some xs) {i : Nat} (hi : i < ops.size) : ∃ l, farPtr P st ops p b i = some l ∧ ∀ x ∈ l, x ∈ xs := by
  unfold farPtrs at h
  have : ∀ (k : List Nat) (xs : List SV), k.foldr (fun i r => (farPtr P st ops p b i).bind fun l => r.map (l ++ ·)) (some []) = some xs → i ∈ k → ∃ l, farPtr P st ops p b i = some l ∧ ∀ x ∈ l, x ∈ xs := by
    intro k
    induction k with
    | nil => intro xs _ h; cases h
    | cons j k ih =>
      intro xs h hm
      rw [List.foldr_cons, Option.bind_eq_some_iff] at h
      obtain ⟨l, hl, h⟩ := h
      rw [Option.map_eq_some_iff] at h
      obtain ⟨ys, hy, rfl⟩ := h
      rcases List.mem_cons.1 hm with rfl | hm
      · exact ⟨l, hl, fun x hx => List.mem_append_left _ hx⟩
      · obtain ⟨l', hl', hs⟩ := ih ys hy hm
        exact ⟨l', hl', fun x hx => List.mem_append_right _ (hs x hx)⟩
  exact this _ _ h (List.mem_range.2 hi)
theorem load_same {P : Program} {ad : Addr} {W W' : World} {cur : Array Value} {e : TypeId} {f : Nat × Nat} (h : W.heap[ad.block]? = some (.cells cur e f)) (h' : W'.heap[ad.block]? = some (.cells cur e f)) {v : Value} {X : World} (hr : (load ad).run P W = .ok v X) : X = W ∧ (load ad).run P W' = .ok v W' := by
  have ec : W'.cell? ad = W.cell? ad := by simp [World.cell?, h, h']
  rw [run_load] at hr
  rw [run_load, ec]
  cases hc : W.cell? ad with
  | some u => rw [hc] at hr; simp only [Result.ok.injEq] at hr; exact ⟨hr.2.symm, by rw [hr.1]⟩
  | none =>
    rw [hc] at hr
    unfold World.farLoad at hr
    rw [h] at hr
    cases hr
theorem loads_same {P : Program} {ad : Addr} {W W' : World} {cur : Array Value} {e : TypeId} {f : Nat × Nat} (h : W.heap[ad.block]? = some (.cells cur e f)) (h' : W'.heap[ad.block]? = some (.cells cur e f)) : ∀ (n i : Nat) (acc r : Array Value) (X : World), (loadCellsFrom ad i n acc).run P W = .ok r X → X = W ∧ (loadCellsFrom ad i n acc).run P W' = .ok r W'
  | 0, _, _, _, _, hr => by
    cases hr; exact ⟨rfl, rfl⟩
  | n + 1, i, acc, r, X, hr => by
    have hb : (ad.add i).block = ad.block := by unfold Addr.add; split <;> rfl
    unfold loadCellsFrom at hr ⊢
    rw [Sem.run_bind] at hr ⊢
    cases hl : (load (ad.add i)).run P W with
    | ok v Y =>
      obtain ⟨rfl, h2⟩ := load_same (P := P) (ad := ad.add i) (W := W) (W' := W') (by rw [hb]; exact h) (by rw [hb]; exact h') hl
      rw [hl] at hr
      rw [h2]
      exact loads_same h h' n (i + 1) _ r X hr
    | halt x Y => rw [hl] at hr; cases hr
theorem loadVar_same {P : Program} {t : TypeId} {ad : Addr} {W W' : World} {cur : Array Value} {e : TypeId} {f : Nat × Nat} (h : W.heap[ad.block]? = some (.cells cur e f)) (h' : W'.heap[ad.block]? = some (.cells cur e f)) {v : Value} {X : World} (hr : (loadVar t ad).run P W = .ok v X) : X = W ∧ (loadVar t ad).run P W' = .ok v W' := by
  unfold loadVar at hr ⊢
  cases hu : P.underlying t with
  | none => simp [isAgg, underlying, hu] at hr
  | some d =>
    rw [Sem.run_bind, run_isAgg _ hu, Result.andThen_ok] at hr ⊢
    cases ha : isAggT P t
    · rw [ha] at hr
      simp only [Bool.false_eq_true, if_false] at hr ⊢
      exact load_same h h' hr
    · rw [ha] at hr
      simp only [if_true] at hr ⊢
      cases hi : P.info? t with
      | none => simp [Go.sizeOf, typeInfo, hi] at hr
      | some i =>
        rw [Sem.run_bind, sizeOf_T _ hi, Result.andThen_ok, Sem.run_bind] at hr ⊢
        cases hl : (loadCells ad (sizeT P t)).run P W with
        | ok r Y =>
          obtain ⟨rfl, h2⟩ := loads_same h h' _ _ _ _ _ hl
          rw [hl] at hr
          rw [show (loadCells ad (sizeT P t)).run P W' = .ok r W' from h2]
          simp only [Result.andThen_ok, Sem.run_pure, Result.ok.injEq] at hr ⊢
          exact ⟨hr.2.symm, hr.1, trivial⟩
        | halt x Y => rw [hl] at hr; cases hr
theorem kept_far {b off : Nat} {cs : List SV} {blk : Blk} {xs : List SV} (hfr : Fr L ρ D st.tmps a) (hLb : L.length = st.blks.length) (hb : st.blks[b]? = some blk) (hx : farPtrs C.P st ops p b = some xs)
    (hfar : ∀ x ∈ xs, ∀ ad : Addr, x.den L ρ = .pointer (some ad) → ad.block ∉ L ∧ ∀ w, Wd L ρ st.blks h w → ∃ cur e f, w.heap[ad.block]? = some (.cells cur e f)) :
    ∀ i, p.testBit i = true → ∀ oi, ops[i]? = some oi → KeptOp C.P (execOp a.eval oi) (kw L ρ st.blks h) (kw L ρ (st.blks.modify b fun q => { q with cells := putAt q.cells off cs }) h) := fun i hi oi hoi => by
  obtain ⟨l, hl, hsub⟩ := farPtrs_spec hx (Array.getElem?_eq_some_iff.1 hoi).1
  unfold farPtr at hl
  rw [hi] at hl
  simp only [Bool.not_true, Bool.false_or] at hl
  split at hl
  · rename_i hok
    exact kept_upd (p := 2 ^ i) hfr hLb hb hok i (by simp [Nat.testBit_two_pow]) oi hoi
  rw [hoi] at hl
  simp only at hl
  split at hl
  · rename_i t x hop
    split at hl
    · rename_i hfirm
      cases hl
      have hvx : a.eval x = (st.ev x).den L ρ := (hfr.ev x).firm hfirm
      refine .inr fun w' hw' => ?_
      have hbl : b < L.length := by rw [hLb]; exact (List.getElem?_eq_some_iff.1 hb).1
      have hne : ∀ {j : Nat}, j < L.length → j ≠ b → L.getD j 0 ≠ L.getD b 0 := fun {j} hjl hj e => by
        simp only [List.getD, List.getElem?_eq_getElem hjl, List.getElem?_eq_getElem hbl, Option.getD_some] at e
        have hpw := List.pairwise_iff_getElem.1 hw'.nd
        rcases Nat.lt_or_gt_of_ne hj with hlt | hlt
        · exact hpw j b hjl hbl hlt e
        · exact hpw b j hbl hjl hlt e.symm
      have hB : L.getD b 0 < w'.heap.size := hw'.lt _ (getD_mem hbl)
      let w : World := { w' with heap := w'.heap.setIfInBounds (L.getD b 0) (.cells (SV.dens L ρ blk.cells).toArray blk.elem (0, 0)) }
      have hother : ∀ k, k ≠ L.getD b 0 → w.heap[k]? = w'.heap[k]? := fun k hk => Array.getElem?_setIfInBounds_ne (Ne.symm hk)
      have hw : Wd L ρ st.blks h w := by
        refine ⟨hLb, fun j q hq => ?_, hw'.nd, hw'.good, h.stab w' w hw'.hold (by simp [w]) (fun k hk => hother k fun e => hw'.good _ (getD_mem hbl) (e ▸ hk)) rfl rfl rfl⟩
        by_cases hj : j = b
        · subst hj
          rw [hb] at hq; cases hq
          show (w'.heap.setIfInBounds _ _)[_]? = _
          rw [Array.getElem?_setIfInBounds_self, if_pos hB]
        · have hjl : j < L.length := by rw [hLb]; exact (List.getElem?_eq_some_iff.1 hq).1
          rw [hother _ (hne hjl hj)]
          exact hw'.blk j q (by rw [List.getElem?_modify, hq]; simp [Ne.symm hj])
      refine ⟨w, hw, fun k o hk ho => (hother k fun e => hk (.inr (e ▸ getD_mem hbl))).trans ho, fun v hv => ?_⟩
      obtain ⟨dst, op, ty, pos, after, guard⟩ := oi
      simp only at hop
      subst hop
      change (do pure (Next.value (← Instr.loadAt t (a.eval x))) : Sem Next).run C.P w = _ at hv
      show (do pure (Next.value (← Instr.loadAt t (a.eval x))) : Sem Next).run C.P w' = _
      rw [Sem.run_bind] at hv ⊢
      cases hq : a.eval x with
      | pointer ad =>
        cases ad with
        | none => rw [hq] at hv; simp [Instr.loadAt, Instr.sureAddr] at hv
        | some ad =>
          rw [hq] at hv hvx
          obtain ⟨hnL, hcell⟩ := hfar _ (hsub _ (List.mem_cons_self ..)) ad hvx.symm
          obtain ⟨cur, e, f, hc⟩ := hcell w hw
          have hc' : w'.heap[ad.block]? = some (.cells cur e f) := by rw [← hother ad.block (by intro e'; rw [e'] at hnL; exact hnL (getD_mem hbl))]; exact hc
          simp only [Instr.loadAt, Instr.sureAddr, pure_bind] at hv ⊢
          cases hr : (loadVar t ad).run C.P w with
          | ok u Y =>
            obtain ⟨rfl, h2⟩ := loadVar_same hc hc' hr
            rw [hr] at hv
            rw [h2]
            simp only [Result.andThen_ok, Sem.run_pure, Result.ok.injEq, Next.value.injEq] at hv ⊢
            exact ⟨hv.1, trivial⟩
          | halt z Y => rw [hr] at hv; cases hv
      | _ => rw [hq] at hv; simp [Instr.loadAt, Instr.sureAddr] at hv
    · cases hl
  · cases hl
theorem doRes_step {g : BT} {r : Res} {i : Nat} {G : HW} (hi : ops[i]? = some o) (hlen : ρ.length = st.nv) (hLb : L.length = st.blks.length) (he : EnvOk ρ) (hfr : Fr L ρ D st.tmps a)
    (hw : Region.wanted o (yielded ops a.tmps) = g.eval ρ) (hss : g.eval ρ = true → StepOk C.P L ρ st.blks h o a r)
    (hden : den C.P R Dn (doRes C.P next st ops o fr p again then_ (fun x => (st.ev x).under g) g r) L ρ h A) :
    (∃ c b, c.eval ρ = b ∧ den C.P R Dn (next again (st.subst c b)) L ρ h A) ∨ PStep C.P ops G (i, fr, p) (After C R Dn next then_ L ρ A D) (kw L ρ st.blks h) a := by
  have ret : ∀ (st' : St) (v : Value) (us : List U), Fr L (ρ ++ us) D st'.tmps (a.put o.dst v) → st'.blks = st.blks → (ρ ++ us).length = st'.nv → EnvOk (ρ ++ us) → scBlks ρ.length st.blks = true ∨ us = [] → den C.P R Dn (next then_ st') L (ρ ++ us) h A →
      After C R Dn next then_ L ρ A D (kw L ρ st.blks h) (a.put o.dst v) := fun st' v us hf hb hl he' hsc hd =>
    ⟨st', L, ρ ++ us, h, by rw [hb]; rcases hsc with hsc | rfl; exact (kw_letters hsc).symm; rw [List.append_nil], hd, hl, he', ⟨[], by simp⟩, ⟨us, rfl⟩, hf⟩
  have put_letters : ∀ (us : List U) (sh : Sh), UOk sh us → scSt st = true → Fr L (ρ ++ us) D ({ st with nv := (sh.fresh st.nv).2 }.put o.dst (sh.fresh st.nv).1).tmps (a.put o.dst ((sh.fresh ρ.length).1.den L (ρ ++ us))) ∧
      (ρ ++ us).length = ({ st with nv := (sh.fresh st.nv).2 }.put o.dst (sh.fresh st.nv).1).nv := fun us sh hus hsc => by
    obtain ⟨_, hst⟩ := scSt_spec hsc hlen
    refine ⟨Fr.put (st := { st with nv := (sh.fresh st.nv).2 }) (hfr.more (EqUpTo.append' ρ us) (EqLoc.refl _ _) hst) o.dst ?_, ?_⟩
    · rw [hlen]; exact .inr rfl
    · rw [put_nv]; simp [fresh_len sh us st.nv hus, hlen]
  have keep : ∀ {S' : HW}, (∀ w, S'.H w → ∃ h'', Wd L ρ st.blks h'' w) → ((pendMask C.P st ops p != 0) = true → ∀ w, S'.H w → (kw L ρ st.blks h).H w) → ∀ i, p.testBit i = true → ∀ oi, ops[i]? = some oi → KeptOp C.P (execOp a.eval oi) (kw L ρ st.blks h) S' := fun hS' hp i hi oi hoi => by
    cases hl : isLocRead C.P st ops i
    · refine .of (hp ?_)
      rw [bne_iff_ne]
      intro h0
      have := pendMask_bit (P := C.P) (st := st) hi (Array.getElem?_eq_some_iff.1 hoi).1 hl
      rw [h0] at this; simp at this
    · exact loc_kept hfr hoi hl (fun w hw => ⟨_, hw⟩) hS'
  have pst : g.eval ρ = true → (((kd o.op = .pure ∨ kd o.op = .load) ∧ ∃ v, (∀ w, (kw L ρ st.blks h).H w → (execOp a.eval o).run C.P w = .ok (.value v) w) ∧ (fr = true → ∀ w, (execOp a.eval o).run C.P w = .ok (.value v) w) ∧ After C R Dn next then_ L ρ A D (kw L ρ st.blks h) (a.put o.dst v)) ∨
      (kd o.op = .alloc ∧ ∃ (mk : Nat → Value) (obj : Obj), (∀ w, (execOp a.eval o).run C.P w = .ok (.value (mk w.heap.size)) (w.alloc obj)) ∧ ∀ b, ¬ (kw L ρ st.blks h).own b → ¬ G.own b → After C R Dn next then_ L ρ A D ((kw L ρ st.blks h).add b obj) (a.put o.dst (mk b))) ∨
      (kd o.op = .eff ∧ ∀ w, (kw L ρ st.blks h).H w → G.H w → Disj G (kw L ρ st.blks h) → opW C.P o a w fun a' w' => ∃ v S', a' = a.put o.dst v ∧ S'.H w' ∧ Grow (kw L ρ st.blks h) w S' w' ∧ (∀ i, p.testBit i = true → ∀ oi, ops[i]? = some oi → KeptOp C.P (execOp a.eval oi) (kw L ρ st.blks h) S') ∧ After C R Dn next then_ L ρ A D S' a')) →
      PStep C.P ops G (i, fr, p) (After C R Dn next then_ L ρ A D) (kw L ρ st.blks h) a := fun hge hx => ⟨o, hi, fun h1 => (by rw [hw, hge] at h1; cases h1), fun _ => hx⟩
  unfold doRes at hden
  split at hden
  · -- it computes, or reads
    rename_i hk'
    have hk : kd o.op = .pure ∨ kd o.op = .load := hk'.imp id (·.1)
    have hkf : kd o.op = .load → fr = true → False := fun h1 h2 => by
      rcases hk' with h3 | ⟨_, h3⟩
      · rw [h1] at h3; cases h3
      · rw [h2] at h3; cases h3
    have plain : ∀ (x : SV) (v : Value), g.eval ρ = true → Rel L ρ x v → (∀ w, (kd o.op = .load → Wd L ρ st.blks h w) → (execOp a.eval o).run C.P w = .ok (.value v) w) →
        den C.P R Dn (next then_ (st.put o.dst x)) L ρ h A → PStep C.P ops G (i, fr, p) (After C R Dn next then_ L ρ A D) (kw L ρ st.blks h) a := fun x v hge hv hrun hd => by
      refine pst hge (.inl ⟨hk, v, fun w hS => hrun w fun _ => hS, fun hf w => hrun w fun hl => (hkf hl hf).elim, ?_⟩)
      have := ret (st.put o.dst x) v [] (by simpa using hfr.put o.dst hv) (put_blks ..) (by rw [put_nv]; simpa using hlen) (by simpa using he) (.inr rfl) (by simpa using hd)
      simpa using this
    cases r
    case val x =>
      right
      cases hge : g.eval ρ
      · have hns : g ≠ BT.lit true := by rintro rfl; simp [BT.eval] at hge
        simp only [hns, if_false] at hden
        refine ⟨o, hi, fun _ => ?_, fun h1 => (by rw [hw, hge] at h1; cases h1)⟩
        have := ret (st.put o.dst (SV.mkGrd g x)) undef [] (by simpa using hfr.put o.dst (Rel.mkGrd (fun h1 => (by rw [hge] at h1; cases h1)) fun _ => rfl)) (put_blks ..) (by rw [put_nv]; simpa using hlen) (by simpa using he) (.inr rfl) (by simpa using hden)
        simpa using this
      · obtain ⟨v, hv, hrun⟩ := hss hge
        simp only at hden
        split at hden
        · exact plain x v hge hv hrun hden
        · exact plain _ v hge (Rel.mkGrd (fun _ => hv) fun h1 => (by rw [hge] at h1; cases h1)) hrun hden
    case split c => obtain ⟨b, hb⟩ := den_split hden; exact .inl ⟨c, b, hb⟩
    case chk c x =>
      rcases den_sure hden with ⟨hgl, hd⟩ | hs
      · have hge : g.eval ρ = true := by rw [hgl]; rfl
        have hc : c.eval ρ = true ∧ den C.P R Dn (next then_ (st.put o.dst x)) L ρ h A := by
          split at hd
          · rename_i e; rw [e]; exact ⟨rfl, hd⟩
          · exact hd
        obtain ⟨v, hv, hrun⟩ := hss hge hc.1
        exact .inr (plain x v hge hv hrun hc.2)
      · exact .inl hs
    case cases ix l =>
      rcases den_sure hden with ⟨hgl, h0, h1, hd⟩ | hs
      · have hge : g.eval ρ = true := by rw [hgl]; rfl
        simp only [BT.eval, cm, IT.eval] at h0 h1
        have h0 : 0 ≤ ix.eval ρ := of_decide_eq_true h0
        have h1 : ix.eval ρ < (l.length : Int) := of_decide_eq_true h1
        obtain ⟨j, hj⟩ := Int.eq_ofNat_of_zero_le h0
        have hjl : j < l.length := by omega
        have key : ∀ (m : Nat) (l' : List SV), (∀ n, l'[n]? = l[m + n]?) → m ≤ j → den C.P R Dn (casesT next st o then_ ix m l') L ρ h A → den C.P R Dn (next then_ (st.put o.dst l[j])) L ρ h A := by
          intro m l'
          induction l' generalizing m with
          | nil => intro hm hmj _; have := hm (j - m); rw [Nat.add_sub_cancel' hmj, List.getElem?_eq_getElem hjl] at this; simp at this
          | cons y l' ih =>
            intro hm hmj hd
            simp only [casesT] at hd
            by_cases e : m = j
            · subst e
              have h2 := hm 0
              rw [Nat.add_zero, List.getElem?_eq_getElem hjl] at h2
              simp only [List.getElem?_cons_zero, Option.some.injEq] at h2
              subst h2
              exact hd.1 (by simp [BT.eval, IT.eval, cm, hj])
            · exact ih (m + 1) (fun n => by have := hm (n + 1); rw [List.getElem?_cons_succ] at this; rw [this]; congr 1; omega) (by omega) (hd.2 (by simp [BT.eval, IT.eval, cm, hj]; omega))
        obtain ⟨v, hv, hrun⟩ := hss hge j l[j] (List.getElem?_eq_getElem hjl) hj
        exact .inr (plain _ v hge hv hrun (key 0 l (fun n => by rw [Nat.zero_add]) (Nat.zero_le _) hd))
      · exact .inl hs
    case load i' off sh agg =>
      rcases den_sure hden with ⟨hgl, hd⟩ | hs
      · right
        have hge : g.eval ρ = true := by rw [hgl]; rfl
        split at hd
        · exact hd.elim
        rename_i hnf
        obtain ⟨hsc, us, hus, hcells, hd⟩ := den_sc hd
        obtain ⟨hsb, hst⟩ := scSt_spec hsc hlen
        have hlus := freshs_len sh us ρ.length hus
        have hl2 : (SV.dens L (ρ ++ us) (Sh.freshs sh ρ.length).1).length = sh.length := by
          rw [dens_length, freshs_length]
        refine pst hge (.inl ⟨hk, _, fun w hwd => hss hge _ w hl2 (hcells w hwd), fun hf => absurd hf hnf, ret _ _ us ?_ ?_ ?_ (he.append (UsOk.env sh us hus)) (.inl hsb) hd⟩)
        · refine Fr.put (st := { st with nv := (Sh.freshs sh st.nv).2 }) (hfr.more (EqUpTo.append' ρ us) (EqLoc.refl _ _) hst) o.dst ?_
          rw [hlen]
          split
          · exact .inr (by simp [SV.den])
          · cases hf : (Sh.freshs sh st.nv).1 with
            | nil => exact .inl rfl
            | cons y l => exact .inr (by simp [SV.dens])
        · rw [put_blks]
        · rw [put_nv]; simp [hlus, ← hlen]
      · exact .inl hs
    case ext sh =>
      rcases den_sure hden with ⟨hgl, hd⟩ | hs
      · right
        have hge : g.eval ρ = true := by rw [hgl]; rfl
        split at hd
        · exact hd.elim
        rename_i hnf
        obtain ⟨hsc, hd⟩ := den_sc hd
        obtain ⟨hsb, hst⟩ := scSt_spec hsc hlen
        obtain ⟨hfirm, hd⟩ := den_firm hd
        split at hd
        · rename_i hkn
          obtain ⟨us, hus, hrun, hd⟩ := hd
          obtain ⟨hf', hl'⟩ := put_letters us sh hus hsc
          refine pst hge (.inl ⟨hk, _, fun w hwd => ?_, fun hf => absurd hf hnf, ret _ _ us hf' (put_blks ..) hl' (he.append (UOk.env sh us hus)) (.inl hsb) hd⟩)
          rw [xop_sound hkn, ev_args hge hfr hfirm]
          exact hrun w hwd
        · exact hd.elim
      · exact .inl hs
    all_goals exact hden.elim
  split at hden
  · -- a block
    rename_i hk
    cases r
    case alloc b x =>
      rcases den_sure hden with ⟨hgl, hd⟩ | hs
      · right
        have hge : g.eval ρ = true := by rw [hgl]; rfl
        obtain ⟨hsc, hd⟩ := den_sc hd
        obtain ⟨hsb, hst⟩ := scSt_spec hsc hlen
        split at hd
        · rename_i hbs
          refine pst hge (.inr (.inl ⟨hk, fun n => (x.sv L.length).den (L ++ [n]) ρ, _, hss hge, fun n hn _ => ?_⟩))
          have hn1 : n ∉ L := fun h1 => hn (.inr h1)
          have hn2 : ¬ h.own n := fun h1 => hn (.inl h1)
          refine ⟨_, L ++ [n], ρ, h, ?_, hd n hn1 hn2, ?_, he, ⟨_, rfl⟩, ⟨[], by simp⟩, ?_⟩
          · rw [put_blks]; exact kw_add hsb hLb (by rw [hlen]; exact hbs) hn1 hn2
          · rw [put_nv]; exact hlen
          · refine Fr.put (st := { st with blks := st.blks ++ [b] }) (hfr.more (nv := ρ.length) (EqUpTo.refl _ _) (by rw [← hLb]; exact EqLoc.append' L _) hst) o.dst ?_
            rw [← hLb]; exact .inr rfl
        · exact hd.elim
      · exact .inl hs
    case allocc t n cs =>
      rcases den_sure hden with ⟨hgl, hd⟩ | hs
      · right
        have hge : g.eval ρ = true := by rw [hgl]; rfl
        obtain ⟨hsc, hd⟩ := den_sc hd
        obtain ⟨hsb, hst⟩ := scSt_spec hsc hlen
        refine pst hge (.inr (.inl ⟨hk, bigVal n, _, hss hge, fun b hn _ => ?_⟩))
        have hn1 : b ∉ L := fun h1 => hn (.inr h1)
        have hn2 : ¬ h.own b := fun h1 => hn (.inl h1)
        refine ⟨_, L, ρ ++ [.p (some ⟨b, 0, none⟩)], _, ?_, hd b hn1 hn2, ?_, he.append (by simp), ⟨[], by simp⟩, ⟨_, rfl⟩, ?_⟩
        · rw [put_blks]; exact kw_big hsb hn1
        · rw [put_nv]; simp [hlen]
        · refine Fr.put (st := { st with nv := st.nv + 1 }) (hfr.more (EqUpTo.append' ρ _) (EqLoc.refl _ _) hst) o.dst ?_
          right
          have hp : Env.ptr (ρ ++ [.p (some ⟨b, 0, none⟩)]) st.nv = some ⟨b, 0, none⟩ := by rw [← hlen]; exact env_ptr_at ρ [] _
          cases n with
          | none => simp [SV.den, bigVal, atAddr, hp, IT.eval, addr_zero]
          | some lc => obtain ⟨l, c⟩ := lc; simp [SV.den, bigVal, atAddr, hp, IT.eval, addr_zero]
      · exact .inl hs
    case makev e bytes l c =>
      rcases den_sure hden with ⟨hgl, hd⟩ | hs
      · right
        have hge : g.eval ρ = true := by rw [hgl]; rfl
        obtain ⟨hsc, hd⟩ := den_sc hd
        obtain ⟨hsb, hst⟩ := scSt_spec hsc hlen
        obtain ⟨n, m, hn, hm, hnm, hby, h63, hd⟩ := hd
        refine pst hge (.inr (.inl ⟨hk, fun b => .slice (some ⟨b, 0, none⟩) n m, _, hss hge n m hn hm hnm hby h63, fun b hb _ => ?_⟩))
        have hn1 : b ∉ L := fun h1 => hb (.inr h1)
        have hn2 : ¬ h.own b := fun h1 => hb (.inl h1)
        obtain ⟨hf', hl'⟩ := put_letters [.p (some ⟨b, 0, none⟩), .i n, .i m] .sl ⟨_, _, _, rfl⟩ hsc
        have key := hd b hn1 hn2
        refine ⟨_, L, _, _, ?_, key, hl', he.append (UOk.env .sl _ ⟨_, _, _, rfl⟩), ⟨[], by simp⟩, ⟨_, rfl⟩, ?_⟩
        · rw [put_blks]; exact kw_big hsb hn1
        · have hv : (Sh.sl.fresh ρ.length).1.den L (ρ ++ [.p (some ⟨b, 0, none⟩), .i n, .i m]) = .slice (some ⟨b, 0, none⟩) n m := by
            simp only [Sh.fresh, SV.den, IT.eval, atAddr, env_ptr_at, env_int_at1, env_int_at2]
            simp [addr_zero]
          rw [hv] at hf'
          exact hf'
      · exact .inl hs
    case allocb t n =>
      rcases den_sure hden with ⟨hgl, hd⟩ | hs
      · right
        have hge : g.eval ρ = true := by rw [hgl]; rfl
        obtain ⟨hsc, hd⟩ := den_sc hd
        obtain ⟨hsb, hst⟩ := scSt_spec hsc hlen
        refine pst hge (.inr (.inl ⟨hk, bigVal n, _, hss hge, fun b hn _ => ?_⟩))
        have hn1 : b ∉ L := fun h1 => hn (.inr h1)
        have hn2 : ¬ h.own b := fun h1 => hn (.inl h1)
        refine ⟨_, L, ρ ++ [.p (some ⟨b, 0, none⟩)], _, ?_, hd b hn1 hn2, ?_, he.append (by simp), ⟨[], by simp⟩, ⟨_, rfl⟩, ?_⟩
        · rw [put_blks]; exact kw_big hsb hn1
        · rw [put_nv]; simp [hlen]
        · refine Fr.put (st := { st with nv := st.nv + 1 }) (hfr.more (EqUpTo.append' ρ _) (EqLoc.refl _ _) hst) o.dst ?_
          right
          have hp : Env.ptr (ρ ++ [.p (some ⟨b, 0, none⟩)]) st.nv = some ⟨b, 0, none⟩ := by rw [← hlen]; exact env_ptr_at ρ [] _
          cases n with
          | none => simp [SV.den, bigVal, atAddr, hp, IT.eval, addr_zero]
          | some lc => obtain ⟨l, c⟩ := lc; simp [SV.den, bigVal, atAddr, hp, IT.eval, addr_zero]
      · exact .inl hs
    all_goals exact hden.elim
  split at hden
  · -- more
    rename_i hk
    cases r
    case upd b off cs =>
      rcases den_sure hden with ⟨hgl, hd⟩ | hs
      · right
        have hge : g.eval ρ = true := by rw [hgl]; rfl
        obtain ⟨hsc, hd⟩ := den_sc hd
        obtain ⟨hd, hkeep⟩ : den C.P R Dn (next then_ ({ st with blks := st.blks.modify b fun q => { q with cells := putAt q.cells off cs } }.put o.dst .undef)) L ρ h A ∧ (∀ blk, st.blks[b]? = some blk → ∀ i, p.testBit i = true → ∀ oi, ops[i]? = some oi → KeptOp C.P (execOp a.eval oi) (kw L ρ st.blks h) (kw L ρ (st.blks.modify b fun q => { q with cells := putAt q.cells off cs }) h)) := by
          split at hd
          · split at hd
            · rename_i hx
              exact ⟨hd.2, fun blk hb => kept_far hfr hLb hb hx hd.1⟩
            · exact hd.elim
          · rename_i hp
            refine ⟨hd, fun blk hb => ?_⟩
            by_cases hp0 : p = 0
            · intro i hi; rw [hp0] at hi; simp at hi
            · exact kept_upd hfr hLb hb (by
                cases hok : okKeep C.P st ops p b
                · exact absurd ⟨hp0, hok⟩ hp
                · rfl)
        obtain ⟨blk, hb, hle, hrun⟩ := hss hge
        refine pst hge (.inr (.inr ⟨hk, fun w hS _ _ => .inr (.inl ⟨_, hrun w hS, undef, _, rfl, Wd.upd hS hb, Wd.upd_grow (by rw [hLb]; exact (List.getElem?_eq_some_iff.1 hb).1), hkeep blk hb, ?_⟩)⟩))
        refine ⟨_, L, ρ, h, ?_, hd, ?_, he, ⟨[], by simp⟩, ⟨[], by simp⟩, ?_⟩
        · rw [put_blks]
        · rw [put_nv]; exact hlen
        · exact Fr.put (st := { st with blks := st.blks.modify b fun q => { q with cells := putAt q.cells off cs } }) hfr o.dst (.inr rfl)
      · exact .inl hs
    case store i' off cs =>
      rcases den_sure hden with ⟨hgl, hd⟩ | hs
      · right
        have hge : g.eval ρ = true := by rw [hgl]; rfl
        obtain ⟨hsc, hd⟩ := den_sc hd
        refine pst hge (.inr (.inr ⟨hk, fun w hS _ _ => ?_⟩))
        obtain ⟨b, o', cur, e, had, hheap, hle, hown, h', hsub, hp, hH, hd⟩ := hd w hS
        obtain ⟨w1, w2⟩ := Wd.store hS hown hsub hH
        refine .inr (.inl ⟨_, hss hge w b o' cur e had hheap hle, undef, _, rfl, w1, w2, keep (fun _ hw => ⟨_, hw⟩) hp, ?_⟩)
        refine ⟨_, L, ρ, h', ?_, hd, ?_, he, ⟨[], by simp⟩, ⟨[], by simp⟩, hfr.put o.dst (.inr rfl)⟩
        · rw [put_blks]
        · rw [put_nv]; exact hlen
      · exact .inl hs
    case call f args sh =>
      rcases den_sure hden with ⟨hgl, hd⟩ | hs
      · right
        have hge : g.eval ρ = true := by rw [hgl]; rfl
        obtain ⟨hsc, hd⟩ := den_sc hd
        obtain ⟨hsb, hst⟩ := scSt_spec hsc hlen
        obtain ⟨hfirm, hd⟩ := den_firm hd
        refine pst hge (.inr (.inr ⟨hk, fun w hS _ _ => .inr (.inr (.inl ⟨f, _, w, hss hge (List.all_eq_true.1 hfirm) w, (hd w hS).mono ?_⟩))⟩))
        rintro e w' ⟨v, he', us, h', hus, rfl, hg, hp, hw', hd'⟩
        obtain ⟨hf', hl'⟩ := put_letters us sh hus hsc
        exact ⟨_, he', _, _, rfl, hw', hg, keep (fun _ hw => ⟨_, (Wd.letters hsb).1 hw⟩) (fun h1 w'' hw'' => hp h1 w'' hw''), _, L, ρ ++ us, h', by rw [put_blks], hd', hl', he.append (UOk.env sh us hus), ⟨[], by simp⟩, ⟨us, rfl⟩, hf'⟩
      · exact .inl hs
    case callv f args sh =>
      rcases den_sure hden with ⟨hgl, hd⟩ | hs
      · right
        have hge : g.eval ρ = true := by rw [hgl]; rfl
        obtain ⟨hsc, hd⟩ := den_sc hd
        obtain ⟨hsb, hst⟩ := scSt_spec hsc hlen
        obtain ⟨hfirm, hd⟩ := den_firm hd
        have hfirm' := List.all_eq_true.1 hfirm
        refine pst hge (.inr (.inr ⟨hk, fun w hS _ _ => ?_⟩))
        have hrun := hss hge (hfirm' f (by simp)) (fun x hx => hfirm' x (by simp [hx])) w
        have hK : ∀ v w', (∃ us h', UOk sh us ∧ v = (sh.fresh ρ.length).1.den L (ρ ++ us) ∧ Grow (kw L ρ st.blks h) w (kw L (ρ ++ us) st.blks h') w' ∧ ((pendMask C.P st ops p != 0) = true → ∀ w, Wd L (ρ ++ us) st.blks h' w → Wd L ρ st.blks h w) ∧ Wd L (ρ ++ us) st.blks h' w' ∧
            den C.P R Dn (letT next st o then_ sh) L (ρ ++ us) h' A) → ∃ v' S', a.put o.dst v = a.put o.dst v' ∧ S'.H w' ∧ Grow (kw L ρ st.blks h) w S' w' ∧ (∀ i, p.testBit i = true → ∀ oi, ops[i]? = some oi → KeptOp C.P (execOp a.eval oi) (kw L ρ st.blks h) S') ∧ After C R Dn next then_ L ρ A D S' (a.put o.dst v) := by
          rintro v w' ⟨us, h', hus, rfl, hg, hp, hw', hd'⟩
          obtain ⟨hf', hl'⟩ := put_letters us sh hus hsc
          exact ⟨_, _, rfl, hw', hg, keep (fun _ hw => ⟨_, (Wd.letters hsb).1 hw⟩) (fun h1 w'' hw'' => hp h1 w'' hw''), _, L, ρ ++ us, h', by rw [put_blks], hd', hl', he.append (UOk.env sh us hus), ⟨[], by simp⟩, ⟨us, rfl⟩, hf'⟩
        rcases hd w hS with ⟨g', as, w1, hr, hc⟩ | ⟨l, g', t, as, bd, w1, hr, hc⟩
        · refine .inr (.inr (.inl ⟨g', as, w1, by rw [hrun]; exact hr, hc.mono ?_⟩))
          rintro e w' ⟨v, he', hk⟩
          exact ⟨v, he', hK v w' hk⟩
        · refine .inr (.inr (.inr ⟨l, g', t, as, bd, w1, by rw [hrun]; exact hr, hc.mono ?_⟩))
          rintro e w' ⟨v, he', hk⟩
          exact ⟨v, he', hK v w' hk⟩
      · exact .inl hs
    case ext sh =>
      rcases den_sure hden with ⟨hgl, hd⟩ | hs
      · right
        have hge : g.eval ρ = true := by rw [hgl]; rfl
        obtain ⟨hsc, hd⟩ := den_sc hd
        obtain ⟨hsb, hst⟩ := scSt_spec hsc hlen
        obtain ⟨hfirm, hd⟩ := den_firm hd
        split at hd
        · rename_i hkn
          refine pst hge (.inr (.inr ⟨hk, fun w hS _ _ => ?_⟩))
          split at hd
          · obtain ⟨w', hr, h', hg, hp, hw', hd⟩ := hd w hS
            have hrun : (execOp a.eval o).run C.P w = .ok .skip w' := by rw [xop_sound hkn, ev_args hge hfr hfirm]; exact hr
            refine .inr (.inl ⟨_, hrun, undef, _, rfl, hw', hg, keep (fun _ hw => ⟨_, hw⟩) hp, _, L, ρ, h', ?_, hd, ?_, he, ⟨[], by simp⟩, ⟨[], by simp⟩, hfr.put o.dst (.inr rfl)⟩)
            · rw [put_blks]
            · rw [put_nv]; exact hlen
          · split at hd
            · rename_i hent
              cases hq : pendC ops (pendMask C.P st ops p) with
              | none => rw [hq] at hd; exact (show False from hd).elim
              | some q =>
                rw [hq] at hd
                obtain ⟨hfirm2, hd⟩ := den_firm hd
                obtain ⟨v, w', hr, us, h', hus, rfl, hg, hkp, hw', hd'⟩ := hd w hS
                have hrun : (execOp a.eval o).run C.P w = .ok (.value ((sh.fresh ρ.length).1.den L (ρ ++ us))) w' := by rw [xop_sound hkn, ev_args hge hfr hfirm]; exact hr
                obtain ⟨hf', hl'⟩ := put_letters us sh hus hsc
                refine .inl ⟨_, _, hrun, _, _, rfl, hw', hg, fun i hi oi hoi => ?_, _, L, ρ ++ us, h', by rw [put_blks], hd', hl', he.append (UOk.env sh us hus), ⟨[], by simp⟩, ⟨us, rfl⟩, hf'⟩
                cases hl : isLocRead C.P st ops i
                · obtain ⟨hqi, hqk⟩ := pendC_spec hq (pendMask_bit (P := C.P) (st := st) hi (Array.getElem?_eq_some_iff.1 hoi).1 hl)
                  rw [hqi] at hoi; cases hoi
                  have hcong : ∀ w, (execOp a.eval q).run C.P w = (XOp.sem (XOp.norm q.op) q.type (SV.dens L ρ (q.op.operands.toList.map fun x => (st.ev x).under g))).run C.P w := fun w => by rw [xop_sound hqk, ev_args hge hfr hfirm2]
                  rcases hkp with ⟨v, k1, k2⟩ | hkp
                  · exact .inl ⟨v, fun w hw => (hcong w).trans (k1 w hw), fun w hw => (hcong w).trans (k2 w hw)⟩
                  · refine .inr fun w2 hw2 => ?_
                    obtain ⟨w1, k1, k2, k3⟩ := hkp w2 hw2
                    exact ⟨w1, k1, k2, fun v hv => (hcong w2).trans (k3 v ((hcong w1).symm.trans hv))⟩
                · exact loc_kept hfr hoi hl (fun w hw => ⟨_, hw⟩) fun w hw => ⟨_, (Wd.letters hsb).1 hw⟩
            obtain ⟨v, w', hr, us, h', hus, rfl, hg, hp, hw', hd'⟩ := hd w hS
            have hrun : (execOp a.eval o).run C.P w = .ok (.value ((sh.fresh ρ.length).1.den L (ρ ++ us))) w' := by rw [xop_sound hkn, ev_args hge hfr hfirm]; exact hr
            obtain ⟨hf', hl'⟩ := put_letters us sh hus hsc
            exact .inl ⟨_, _, hrun, _, _, rfl, hw', hg, keep (fun _ hw => ⟨_, (Wd.letters hsb).1 hw⟩) hp, _, L, ρ ++ us, h', by rw [put_blks], hd', hl', he.append (UOk.env sh us hus), ⟨[], by simp⟩, ⟨us, rfl⟩, hf'⟩
        · exact hd.elim
      · exact .inl hs
    case nxt shs =>
      rcases den_sure hden with ⟨hgl, hd⟩ | hs
      · right
        have hge : g.eval ρ = true := by rw [hgl]; rfl
        obtain ⟨hsc, hd⟩ := den_sc hd
        obtain ⟨hsb, hst⟩ := scSt_spec hsc hlen
        obtain ⟨hfirm, hd⟩ := den_firm hd
        split at hd
        · rename_i hkn
          refine pst hge (.inr (.inr ⟨hk, fun w hS _ _ => ?_⟩))
          obtain ⟨v, w', hr, hor⟩ := hd w hS
          have hrun : (execOp a.eval o).run C.P w = .ok (.value v) w' := by rw [xop_sound hkn, ev_args hge hfr hfirm]; exact hr
          rcases hor with ⟨us, h', hus, rfl, hg, hp, hw', hd'⟩ | ⟨h', rfl, hg, hp, hw', hd'⟩
          · have hlus := freshs_len shs us ρ.length hus
            refine .inl ⟨_, _, hrun, _, _, rfl, hw', hg, keep (fun _ hw => ⟨_, (Wd.letters hsb).1 hw⟩) hp, _, L, ρ ++ us, h', by rw [put_blks], hd', ?_, he.append (UsOk.env shs us hus), ⟨[], by simp⟩, ⟨us, rfl⟩, ?_⟩
            · rw [put_nv]; simp [hlus, ← hlen]
            · refine Fr.put (st := { st with nv := (Sh.freshs shs st.nv).2 }) (hfr.more (EqUpTo.append' ρ us) (EqLoc.refl _ _) hst) o.dst (.inr ?_)
              rw [hlen]
              simp only [SV.den, SV.dens, BT.eval]
          · refine .inl ⟨_, _, hrun, _, _, rfl, hw', hg, keep (fun _ hw => ⟨_, hw⟩) hp, _, L, ρ, h', by rw [put_blks], hd', by rw [put_nv]; exact hlen, he, ⟨[], by simp⟩, ⟨[], by simp⟩, hfr.put o.dst (.inr ?_)⟩
            simp only [SV.den, SV.dens, BT.eval]
        · exact hd.elim
      · exact .inl hs
    all_goals exact hden.elim
  · exact hden.elim
theorem doOp_step {i : Nat} {G : HW} (hi : ops[i]? = some o) (hlen : ρ.length = st.nv) (hLb : L.length = st.blks.length) (he : EnvOk ρ) (hfr : Fr L ρ D st.tmps a)
    (hden : den C.P R Dn (doOp C next st ops o fr p again then_) L ρ h A) :
    (∃ c b, c.eval ρ = b ∧ den C.P R Dn (next again (st.subst c b)) L ρ h A) ∨ PStep C.P ops G (i, fr, p) (After C R Dn next then_ L ρ A D) (kw L ρ st.blks h) a := by
  unfold doOp at hden
  cases hg : guardOf st ops o with
  | none =>
    rw [hg] at hden
    dsimp only at hden
    split at hden
    · exact .inl ⟨_, den_split hden⟩
    · exact hden.elim
  | some g =>
    rw [hg] at hden
    have hw := guardOf_sound hfr hg
    dsimp only at hden
    split at hden
    · rename_i e
      right
      refine ⟨o, hi, fun _ => ?_, fun h1 => (by rw [hw, e] at h1; cases h1)⟩
      exact ⟨_, L, ρ, h, by rw [put_blks], hden, by rw [put_nv]; exact hlen, he, ⟨[], by simp⟩, ⟨[], by simp⟩, hfr.put o.dst (.inr rfl)⟩
    · exact doRes_step hi hlen hLb he hfr hw (fun hge => (stepOp_sound (P := C.P) o he (fun x => Rel.under hge _ (hfr.ev x))).big _ _ |>.iter _) hden
end doop

/-! ### Loops -/
theorem wpIn_loop_nat {F : Fence} {n : Nat} {P : Program} {c : Code} {Q : Exit → Act → World → Prop} {a : Act} {w : World} (I : Nat → Act → World → Prop) {m : Nat} (h₀ : I m a w)
    (round : ∀ m a w, I m a w → c.wpIn F n P (Exit.then (fun a' w' => ∃ m', m' < m ∧ I m' a' w') Q) a w) : (Code.loop c).wpIn F n P Q a w := by
  intro b k cs hro hb hr
  have key : ∀ j a w, I j a w →
      ∃ e a' w', Q e a' w' ∧ ArrivesIn (Machine.fenced P F) P (lone (b.atR a (.code c :: .inLoop c :: k)) cs w) b k cs e a' w' := by
    intro j
    induction j using Nat.strongRecOn with
    | _ j ih =>
      intro a w hI
      obtain ⟨e, a₁, w₁, hq, harr⟩ := round j a w hI b (.inLoop c :: k) cs hro hb hr
      cases e with
      | normal =>
        obtain ⟨j', hlt, hI₁⟩ := hq
        obtain ⟨e₂, a₂, w₂, hq₂, harr₂⟩ := ih j' hlt a₁ w₁ hI₁
        exact ⟨e₂, a₂, w₂, hq₂, .of_steps (StepsIn.trans harr (.one (fenced_calm hb hr rfl) stepR_inLoop)) harr₂⟩
      | exit id => exact ⟨_, a₁, w₁, hq, .pass (x := .inLoop c) rfl (fun _ _ => .inl (by simp)) harr⟩
      | goto l => exact ⟨_, a₁, w₁, hq, .pass (x := .inLoop c) rfl (fun _ _ => .inl (by simp)) harr⟩
      | ret => exact ⟨_, a₁, w₁, hq, .pass (x := .inLoop c) rfl (fun _ _ => .inl (by simp)) harr⟩
      | panic ch => exact ⟨_, a₁, w₁, hq, .pass (x := .inLoop c) rfl (fun _ _ => .inl (by simp)) harr⟩
      | outgrown => exact ⟨_, a₁, w₁, hq, .pass (x := .inLoop c) rfl (fun _ _ => .inl (by simp)) harr⟩
  obtain ⟨e, a', w', hq, harr⟩ := key _ a w h₀
  exact ⟨e, a', w', hq, .of_steps (.one (fenced_calm hb hr rfl) stepR_loop) harr⟩

theorem fitsT_spec (tm : List Nat) (nb nv : Nat) : ∀ (i : Nat) (l l' : List SV), fitsT tm nb nv i l l' = true → l.length = l'.length ∧ ∀ (k : Nat) x y, l[k]? = some x → l'[k]? = some y → i + k ∈ tm ∨ y = .junk ∨ (x.same y = true ∧ y.sc nb nv = true)
  | i, [], [], _ => ⟨rfl, fun k x y h => by simp at h⟩
  | i, [], _ :: _, h => by simp [fitsT] at h
  | i, _ :: _, [], h => by simp [fitsT] at h
  | i, x :: l, y :: l', h => by
    simp only [fitsT, Bool.and_eq_true, Bool.or_eq_true, List.contains_eq_mem, decide_eq_true_eq] at h
    obtain ⟨h1, h2⟩ := h
    obtain ⟨q1, q2⟩ := fitsT_spec tm nb nv (i + 1) l l' h2
    refine ⟨by simp [q1], fun k u v hu hv => ?_⟩
    cases k with
    | zero =>
      simp only [List.getElem?_cons_zero, Option.some.injEq] at hu hv
      subst hu; subst hv
      rcases h1 with (h1 | h1) | h1
      · right; left; cases y <;> simp at h1 ⊢
      · exact .inr (.inr h1)
      · exact .inl h1
    | succ k =>
      have := q2 k u v (by simpa using hu) (by simpa using hv)
      rw [show i + (k + 1) = i + 1 + k by omega]; exact this
theorem fits_sound {L L0 L1 : List Nat} {ρ ρ0 ρ1 : Env} {D : List Deferred} {st head : St} {nv : Nat} {shs : List Sh} {tm : List Nat} {cl : List (Nat × Nat)} {a : Act} {w : World}
    (hf : fitsHead st head nv shs tm cl = true) (he : EnvOk ρ) (hfr : Fr L ρ D st.tmps a)
    (hblk : ∀ (j : Nat) b, st.blks[j]? = some b → w.heap[L.getD j 0]? = some (.cells (SV.dens L ρ b.cells).toArray b.elem (0, 0)))
    (hL : L = L0 ++ L1) (hρ : ρ = ρ0 ++ ρ1) (hnv : ρ0.length = nv) (hnb : L0.length = head.blks.length) :
    UsOk shs (Sh.uss L ρ shs (valsAt st tm cl)) ∧ Fr L0 (ρ0 ++ Sh.uss L ρ shs (valsAt st tm cl)) D head.tmps a ∧
      (∀ (j : Nat) b, head.blks[j]? = some b → w.heap[L0.getD j 0]? = some (.cells (SV.dens L0 (ρ0 ++ Sh.uss L ρ shs (valsAt st tm cl)) b.cells).toArray b.elem (0, 0))) := by
  simp only [fitsHead, Bool.and_eq_true] at hf
  obtain ⟨⟨⟨⟨⟨hfit, hsame⟩, htmps⟩, htm⟩, hbl⟩, hblks⟩ := hf
  obtain ⟨hlen, htmps⟩ := fitsT_spec _ _ _ _ _ _ htmps
  have hus := uss_ok (L := L) he shs _ hfit
  have hd : SV.dens L0 (ρ0 ++ Sh.uss L ρ shs (valsAt st tm cl)) (valsAt head tm cl) = SV.dens L ρ (valsAt st tm cl) := by
    rw [← SV.sames_den _ _ hsame, ← hnv]
    have := uss_den (L := L) (L' := L0) he shs _ hfit ρ0 []
    simpa using this
  generalize hU : Sh.uss L ρ shs (valsAt st tm cl) = us at hus hd ⊢
  have hscρ : EqUpTo nv ρ (ρ0 ++ us) := by rw [hρ, ← hnv]; exact EqUpTo.append ρ0 ρ1 us
  have hscL : EqLoc head.blks.length L L0 := by rw [hL, ← hnb]; intro i hi; simp only [List.getD, List.getElem?_append_left hi]
  have hpt : ∀ (q : Nat) x y, (valsAt st tm cl)[q]? = some x → (valsAt head tm cl)[q]? = some y → y.den L0 (ρ0 ++ us) = x.den L ρ := fun q x y hx hy => by
    have := congrArg (fun l => l[q]?) hd
    simp only [dens_getElem?, hx, hy, Option.map_some, Option.some.injEq] at this
    exact this
  have hnj : ∀ (q : Nat) x, (valsAt st tm cl)[q]? = some x → x ≠ .junk := by
    have : ∀ (s : List Sh) (l : List SV), Sh.fitss s l = true → ∀ (q : Nat) x, l[q]? = some x → x ≠ .junk := by
      intro s
      induction s with
      | nil => intro l h q x hx; cases l <;> simp [Sh.fitss] at h; simp at hx
      | cons s ss ih =>
        intro l h q x hx
        cases l with
        | nil => simp at hx
        | cons y l =>
          simp only [Sh.fitss, Bool.and_eq_true] at h
          cases q with
          | zero => simp at hx; subst hx; rintro rfl; cases s <;> simp [Sh.fits, SV.one] at h
          | succ q => exact ih l h.2 q x (by simpa using hx)
    exact this shs _ hfit
  have htmq : ∀ i, i ∈ tm → ∃ q, (valsAt st tm cl)[q]? = some (st.tmps.getD i .junk) ∧ (valsAt head tm cl)[q]? = some (head.tmps.getD i .junk) := fun i hi => by
    obtain ⟨q, hq, rfl⟩ := List.mem_iff_getElem.1 hi
    refine ⟨q, ?_, ?_⟩ <;> (simp only [valsAt]; rw [List.getElem?_append_left (by simpa using hq)]; simp [hq])
  have hclq : ∀ b o, (b, o) ∈ cl → ∃ q, (valsAt st tm cl)[q]? = some (cellAt st b o) ∧ (valsAt head tm cl)[q]? = some (cellAt head b o) := fun b o hi => by
    obtain ⟨q, hq, he⟩ := List.mem_iff_getElem.1 hi
    refine ⟨tm.length + q, ?_, ?_⟩ <;> (simp only [valsAt]; rw [List.getElem?_append_right (by simp)]; simp [hq, he])
  have hlen' : st.tmps.length = head.tmps.length := hlen
  refine ⟨hus, ⟨by rw [hfr.size, hlen'], hfr.df, fun i y hy => ?_⟩, fun j y hy => ?_⟩
  · have hi : i < st.tmps.length := by rw [hlen']; exact (List.getElem?_eq_some_iff.1 hy).1
    obtain ⟨v, hv, hr⟩ := hfr.tm i st.tmps[i] (List.getElem?_eq_getElem hi)
    refine ⟨v, hv, ?_⟩
    have hyd : head.tmps.getD i .junk = y := by simp [List.getD, hy]
    have hxd : st.tmps.getD i .junk = st.tmps[i] := by simp [List.getD, hi]
    by_cases hit : i ∈ tm
    · obtain ⟨q, h1, h2⟩ := htmq i hit
      have := hpt q _ _ h1 h2
      rw [hyd, hxd] at this
      right
      rw [this]
      refine hr.of_ne ?_
      rw [← hxd]; exact hnj q _ h1
    · have hchk := htmps i st.tmps[i] y (List.getElem?_eq_getElem hi) hy
      rw [Nat.zero_add] at hchk
      rcases hchk with hj | hj | ⟨h1, h2⟩
      · exact absurd hj hit
      · exact .inl hj
      · right
        have hxj : st.tmps[i] ≠ .junk := by intro e; rw [e] at h1; cases y <;> simp [SV.same] at h1
        rw [hr.of_ne hxj, SV.same_den _ _ h1, SV.sc_den hscρ hscL y h2]
  · have hj : j < head.blks.length := (List.getElem?_eq_some_iff.1 hy).1
    have hchk := List.all_eq_true.1 hblks j (by simpa using hj)
    rw [hy] at hchk
    cases hx : st.blks[j]? with
    | none => rw [hx] at hchk; cases hchk
    | some x =>
      rw [hx] at hchk
      simp only [Bool.and_eq_true, beq_iff_eq] at hchk
      obtain ⟨⟨hel, hcl⟩, hcs⟩ := hchk
      have := hblk j x hx
      rw [hscL j hj] at this
      rw [this, hel]
      congr 3
      apply List.ext_getElem?
      intro o
      rw [dens_getElem?, dens_getElem?]
      rcases Nat.lt_or_ge o x.cells.length with ho | ho
      · have ho' : o < y.cells.length := by omega
        rw [List.getElem?_eq_getElem ho, List.getElem?_eq_getElem ho']
        simp only [Option.map_some, Option.some.injEq]
        have hc := List.all_eq_true.1 hcs o (by simpa using ho)
        simp only [Bool.or_eq_true, List.contains_eq_mem, decide_eq_true_eq, Bool.and_eq_true, List.getD, List.getElem?_eq_getElem ho, List.getElem?_eq_getElem ho', Option.getD_some] at hc
        rcases hc with hc | ⟨h1, h2⟩
        · obtain ⟨q, h1, h2⟩ := hclq j o hc
          have := hpt q _ _ h1 h2
          simp only [cellAt, hx, hy, Option.bind_some, List.getElem?_eq_getElem ho, List.getElem?_eq_getElem ho', Option.getD_some] at this
          exact this.symm
        · rw [SV.same_den _ _ h1, SV.sc_den hscρ hscL _ h2]
      · rw [List.getElem?_eq_none ho, List.getElem?_eq_none (l := y.cells) (by omega)]; rfl

/-! ### The whole -/
def Ex.toExit : Ex → Exit
  | .normal => .normal
  | .exit id => .exit id
  | .ret => .ret
def mk1 (F0 : HW) (Ds : List Nat) : HW where
  H w := F0.H w ∧ ∀ d ∈ Ds, w.heap[d]? = some (.deferred (some []))
  own b := F0.own b ∨ b ∈ Ds
  stab w w' := fun ⟨h1, h2⟩ hs hk ht ho hu => ⟨F0.stab w w' h1 hs (fun b hb => hk b (.inl hb)) ht ho hu, fun d hd => (hk d (.inr hd)).trans (h2 d hd)⟩
  inb w b := fun ⟨h1, h2⟩ hb => hb.elim (F0.inb w b h1) fun h => (Array.getElem?_eq_some_iff.1 (h2 b h)).1
def MOk (F0 : HW) (Ds : List Nat) : Prop := Ds.Nodup ∧ ∀ d ∈ Ds, ¬ F0.own d
def Inv (F0 : HW) (Ds L : List Nat) (ρ : Env) (blks : List Blk) (h : HW) (w : World) : Prop := Wd L ρ blks h w ∧ (mk1 F0 Ds).H w ∧ Disj (mk1 F0 Ds) (kw L ρ blks h)
theorem Inv.weak {F0 h h2 : HW} {Ds L L0 L1 : List Nat} {ρ ρ' : Env} {blks blks' : List Blk} {w : World} (hi : Inv F0 Ds L ρ blks h w) (hL : L = L0 ++ L1) (hlen : L0.length = blks'.length) (hb : Blks L0 ρ' blks' w) (hH : h2.H w)
    (ho : ∀ b, h2.own b → h.own b ∨ b ∈ L1) : Inv F0 Ds L0 ρ' blks' h2 w := by
  obtain ⟨hw, hm, hd⟩ := hi
  subst hL
  have hn := List.nodup_append.1 hw.nd
  refine ⟨⟨hlen, hb, hn.1, fun b hb h1 => ?_, hH⟩, hm, fun b h1 h2 => ?_⟩
  · rcases ho b h1 with h1 | h1
    · exact hw.good b (List.mem_append_left _ hb) h1
    · exact hn.2.2 b hb b h1 rfl
  · refine hd b h1 ?_
    rcases h2 with h2 | h2
    · exact (ho b h2).imp id fun h => List.mem_append_right _ h
    · exact .inr (List.mem_append_left _ h2)
theorem Inv.more {F0 h : HW} {Ds L : List Nat} {ρ : Env} {us : List U} {blks : List Blk} {w : World} (hs : scBlks ρ.length blks = true) (hi : Inv F0 Ds L ρ blks h w) : Inv F0 Ds L (ρ ++ us) blks h w :=
  ⟨(Wd.letters hs).2 hi.1, hi.2.1, by rw [kw_letters hs]; exact hi.2.2⟩
theorem Inv.step {F0 h : HW} {Ds L : List Nat} {ρ : Env} {blks : List Blk} {w w' : World} (hi : Inv F0 Ds L ρ blks h w) (hs : w.heap.size ≤ w'.heap.size) (hk : ∀ b, (mk1 F0 Ds).own b ∨ (kw L ρ blks h).own b → w'.heap[b]? = w.heap[b]?) (ht : w'.tape = w.tape)
    (ho : w'.os = w.os) (hu : w'.output = w.output) : Inv F0 Ds L ρ blks h w' :=
  ⟨(kw L ρ blks h).stab w w' hi.1 hs (fun b hb => hk b (.inr hb)) ht ho hu, (mk1 F0 Ds).stab w w' hi.2.1 hs (fun b hb => hk b (.inl hb)) ht ho hu, hi.2.2⟩
def KQ (r : Option Nat) (P : Program) (Qb : Exit → Act → World → Prop) (J : Nat → Act → World → Prop) : List K → Exit → Act → World → Prop
  | [] => Qb
  | .seq c :: k => Exit.then (c.wpIn (wideR r) 0 P (KQ r P Qb J k)) (KQ r P Qb J k)
  | .block id :: k => Exit.inBlock id (KQ r P Qb J k)
  | .loop lvl _ _ _ _ _ :: k => Exit.then (J lvl) (KQ r P Qb J k)
  | .round .. :: _ => Qb
  | .start .. :: _ => Qb
section kok
variable (r : Option Nat) (P : Program) (F0 : HW) (Dn : Nat → List U → HW → Prop) (Qb : Exit → Act → World → Prop)
def KOk (A : List (List U → HW → Prop)) (J : Nat → Act → World → Prop) (L : List Nat) (ρ : Env) : List K → Prop
  | [] => True
  | .loop lvl head nv shs _ _ :: k => (lvl = loopLvl k ∧ ∃ L0 L1 ρ0 ρ1 I, L = L0 ++ L1 ∧ ρ = ρ0 ++ ρ1 ∧ ρ0.length = nv ∧ L0.length = head.blks.length ∧ A[lvl]? = some I ∧
      ∀ us h2 Ds a w, UsOk shs us → Fr L0 (ρ0 ++ us) (marks Ds) head.tmps a → MOk F0 Ds → Inv F0 Ds L0 (ρ0 ++ us) head.blks h2 w → I us h2 → J lvl a w) ∧ KOk A J L ρ k
  | .round es head nv shs _ :: k => loopLvl k = 0 ∧ ∃ L0 L1 ρ0 ρ1, L = L0 ++ L1 ∧ ρ = ρ0 ++ ρ1 ∧ ρ0.length = nv ∧ L0.length = head.blks.length ∧
      ∀ (e : Ex) us h2 Ds a w, (e = .normal ∨ e ∈ es) → UsOk shs us → Inv F0 Ds L0 (ρ0 ++ us) head.blks h2 w → Dn e.code us h2 → Qb e.toExit a w
  | .start b es head nv shs _ :: k => loopLvl k = 0 ∧ ∃ (F1 : HW) (Q1 : Exit → Act → World → Prop) (L0 L1 : List Nat) (ρ0 ρ1 : Env), L = L0 ++ L1 ∧ ρ = ρ0 ++ ρ1 ∧ ρ0.length = nv ∧ L0.length = head.blks.length ∧
      (∀ (e : Ex) us h2 Ds a w, (e = .normal ∨ e ∈ es) → UsOk shs us → Inv F1 Ds L0 (ρ0 ++ us) head.blks h2 w → Dn e.code us h2 → Q1 e.toExit a w) ∧
      ∀ Ds L ρ blks h a w, MOk F0 Ds → Inv F0 Ds L ρ blks h w → ∃ w2, MOk F1 Ds ∧ Inv F1 Ds L ρ blks h w2 ∧ (b.wpIn (wideR r) 0 P Q1 a w2 → Qb .normal a w)
  | _ :: k => KOk A J L ρ k
end kok
theorem loopLvl_loop {lvl nv : Nat} {head : St} {shs : List Sh} {tm : List Nat} {cl : List (Nat × Nat)} {k : List K} : loopLvl (.loop lvl head nv shs tm cl :: k) = loopLvl k + 1 := by simp [loopLvl]
theorem loopLvl_seq {c : Code} {k : List K} : loopLvl (.seq c :: k) = loopLvl k := by simp [loopLvl]
theorem loopLvl_block {c : Nat} {k : List K} : loopLvl (.block c :: k) = loopLvl k := by simp [loopLvl]
section kok
variable {r : Option Nat} {P : Program} {F0 : HW} {Dn : Nat → List U → HW → Prop} {Qb : Exit → Act → World → Prop}
theorem KOk.more {A : List (List U → HW → Prop)} {J : Nat → Act → World → Prop} {L : List Nat} {ρ : Env} (l : List Nat) (u : List U) : ∀ {k : List K}, KOk r P F0 Dn Qb A J L ρ k → KOk r P F0 Dn Qb A J (L ++ l) (ρ ++ u) k
  | [], _ => trivial
  | .seq _ :: k, h => KOk.more (k := k) l u h
  | .block _ :: k, h => KOk.more (k := k) l u h
  | .loop .. :: k, ⟨⟨h1, L0, L1, ρ0, ρ1, I, hL, hρ, h2, h3, h4, h5⟩, h⟩ =>
    ⟨⟨h1, L0, L1 ++ l, ρ0, ρ1 ++ u, I, by rw [hL, List.append_assoc], by rw [hρ, List.append_assoc], h2, h3, h4, h5⟩, KOk.more (k := k) l u h⟩
  | .round .. :: _, ⟨h0, L0, L1, ρ0, ρ1, hL, hρ, h2, h3, h5⟩ => ⟨h0, L0, L1 ++ l, ρ0, ρ1 ++ u, by rw [hL, List.append_assoc], by rw [hρ, List.append_assoc], h2, h3, h5⟩
  | .start .. :: _, ⟨h0, F1, Q1, L0, L1, ρ0, ρ1, hL, hρ, h2, h3, h5⟩ => ⟨h0, F1, Q1, L0, L1 ++ l, ρ0, ρ1 ++ u, by rw [hL, List.append_assoc], by rw [hρ, List.append_assoc], h2, h3, h5⟩
theorem KOk.len {A : List (List U → HW → Prop)} {J : Nat → Act → World → Prop} {L : List Nat} {ρ : Env} : ∀ {k : List K}, KOk r P F0 Dn Qb A J L ρ k → loopLvl k ≤ A.length
  | [], _ => by simp [loopLvl]
  | .seq _ :: k, h => by rw [loopLvl_seq]; exact KOk.len (k := k) h
  | .block _ :: k, h => by rw [loopLvl_block]; exact KOk.len (k := k) h
  | .loop .. :: k, ⟨⟨h1, L0, L1, ρ0, ρ1, I, hL, hρ, h2, h3, h4, h5⟩, h⟩ => by
    rw [loopLvl_loop]
    have := (List.getElem?_eq_some_iff.1 h4).1
    omega
  | .round es head nv shs cl :: k, h => by
    have : loopLvl (.round es head nv shs cl :: k) = loopLvl k := by simp [loopLvl]
    have := h.1
    omega
  | .start b es head nv shs cl :: k, h => by
    have : loopLvl (.start b es head nv shs cl :: k) = loopLvl k := by simp [loopLvl]
    have := h.1
    omega
theorem KOk.inner {A : List (List U → HW → Prop)} {J J' : Nat → Act → World → Prop} {L : List Nat} {ρ : Env} {n : Nat} {I : List U → HW → Prop} (hJ : ∀ l, l < n → J' l = J l) (hA : n ≤ A.length) :
    ∀ {k : List K}, loopLvl k ≤ n → KOk r P F0 Dn Qb A J L ρ k → KOk r P F0 Dn Qb (A.take n ++ [I]) J' L ρ k
  | [], _, _ => trivial
  | .seq _ :: k, hn, h => KOk.inner (k := k) hJ hA (by rw [loopLvl_seq] at hn; exact hn) h
  | .block _ :: k, hn, h => KOk.inner (k := k) hJ hA (by rw [loopLvl_block] at hn; exact hn) h
  | .loop lvl head nv shs tm cl :: k, hn, ⟨⟨h1, L0, L1, ρ0, ρ1, I', hL, hρ, h2, h3, h4, h5⟩, h⟩ => by
    rw [loopLvl_loop] at hn
    have hlt : lvl < n := by omega
    refine ⟨⟨h1, L0, L1, ρ0, ρ1, I', hL, hρ, h2, h3, ?_, ?_⟩, KOk.inner (k := k) hJ hA (by omega) h⟩
    · rw [List.getElem?_append_left (by simp; omega), List.getElem?_take, if_pos hlt]; exact h4
    · rw [hJ lvl hlt]; exact h5
  | .round .. :: _, _, h => h
  | .start .. :: _, _, h => h
theorem KQ_inner {A : List (List U → HW → Prop)} {J J' : Nat → Act → World → Prop} {L : List Nat} {ρ : Env} {n : Nat} (hJ : ∀ l, l < n → J' l = J l) :
    ∀ {k : List K}, loopLvl k ≤ n → KOk r P F0 Dn Qb A J L ρ k → KQ r P Qb J' k = KQ r P Qb J k
  | [], _, _ => rfl
  | .seq _ :: k, hn, h => by simp only [KQ, KQ_inner (k := k) hJ (by rw [loopLvl_seq] at hn; exact hn) h]
  | .block _ :: k, hn, h => by simp only [KQ, KQ_inner (k := k) hJ (by rw [loopLvl_block] at hn; exact hn) h]
  | .loop lvl head nv shs tm cl :: k, hn, ⟨⟨h1, _⟩, h⟩ => by
    rw [loopLvl_loop] at hn
    simp only [KQ, KQ_inner (k := k) hJ (by omega) h, hJ lvl (by omega)]
  | .round .. :: _, _, _ => rfl
  | .start .. :: _, _, _ => rfl
end kok


theorem okSeq_spec {ops : Array Oper} (h : okSeq ops = true) (j : Nat) (o : Oper) (ho : ops[j]? = some o) : ∀ c, o.op ≠ .defer c := by
  intro c e
  have := Array.all_eq_true_iff_forall_mem.1 h o (Array.mem_of_getElem? ho)
  simp [e] at this
theorem wpIn_region_plan {P : Program} {ops : Array Oper} {F S : HW} {r : Option Nat} {n id : Nat} {a : Act} {w : World} {K : Act → World → Prop} {Q : Exit → Act → World → Prop} {l : List Ent} (hm : P.follows .mixedOrders = true)
    (hok : okOrder ops (befOf ops) l = true) (hK : ∀ a w, K a w → Q .normal a w) (h : Plan P ops F K l S a) (hS : S.H w) (hF : F.H w) (hd : Disj F S) : (Code.region id ops true).wpIn (wideR r) n P Q a w := by
  simp only [okOrder, Bool.and_eq_true] at hok
  obtain ⟨⟨⟨⟨⟨⟨⟨h1, h2⟩, h3⟩, h4⟩, h5⟩, h6⟩, h7⟩, h8⟩ := hok
  have hno : ∀ (j : Nat) o, ops[j]? = some o → (∀ cs b, o.op ≠ .select cs b) ∧ ∀ c, o.op ≠ .defer c := fun j o ho => by
    have := Array.all_eq_true_iff_forall_mem.1 h1 o (Array.mem_of_getElem? ho)
    exact ⟨fun cs b e => by simp [e] at this, fun c e => by simp [e] at this⟩
  refine wpIn_region_draw fun t => ?_
  refine opsW.wpOpsIn (fun j o ho => (hno j o ho).2) hK _ _ _ ?_
  simp only [Region.schedule, hm, Bool.true_or, if_true]
  refine Plan.any (fun j o ho => (hno j o ho).1) h2 (fun j o ho e he hb => ?_) (fun i hi => ?_) ops.size t l (Array.replicate ops.size false) S a _ (fun i m hi => ?_) (by simp) (by simpa using h7) (okPairs_spec h8) (fun e he => ?_) (fun i hi _ => ?_) h
    (S.stab w _ hS (Nat.le_refl _) (fun _ _ => rfl) rfl rfl rfl) (F.stab w _ hF (Nat.le_refl _) (fun _ _ => rfl) rfl rfl rfl) hd
  · have := Array.all_eq_true_iff_forall_mem.1 (Array.all_eq_true_iff_forall_mem.1 h3 o (Array.mem_of_getElem? ho)) e he
    simpa [hb] using this
  · have := List.all_eq_true.1 h4 i (by simpa using hi)
    simpa using this
  · exfalso; rcases Nat.lt_or_ge i ops.size with h' | h' <;> simp [h'] at hi
  · have := List.all_eq_true.1 h6 e he
    have hlt : e.1 < ops.size := by simpa using this
    exact ⟨hlt, by simp [hlt]⟩
  · have := List.all_eq_true.1 h5 i (by simpa using hi)
    simp only [List.contains_eq_mem, List.mem_map, decide_eq_true_eq] at this
    obtain ⟨e, he, hei⟩ := this
    exact ⟨e, he, hei⟩
section whole
variable {C : Cfg} {R : Value → HW → Prop} {Dn : Nat → List U → HW → Prop} {r : Option Nat} {Qb : Exit → Act → World → Prop} {D : List Deferred}
def TW (C : Cfg) (r : Option Nat) (Qb : Exit → Act → World → Prop) (J : Nat → Act → World → Prop) (k : List K) (G S : HW) : Task → Act → World → Prop
  | .code c, a, w => c.wpIn (wideR r) 0 C.P (KQ r C.P Qb J k) a w
  | .body c, a, w => c.wpIn (wideR r) 0 C.P (KQ r C.P Qb J k) a w
  | .exit e, a, w => KQ r C.P Qb J k e.toExit a w
  | .lst ops l, a, _ => Plan C.P ops G (KQ r C.P Qb J k .normal) l S a
theorem setTmps_ok {L : List Nat} {ρ : Env} : ∀ (ps : List Nat) (xs : List SV) (t : List SV) (at' : Array Value), at'.size = t.length → (∀ (i : Nat) x, t[i]? = some x → ∃ v, at'[i]? = some v ∧ Rel L ρ x v) →
    ((ps.zip (SV.dens L ρ xs)).foldl (fun t (p, v) => t.setIfInBounds p v) at').size = (setTmps ps xs t).length ∧
    ∀ (i : Nat) x, (setTmps ps xs t)[i]? = some x → ∃ v, ((ps.zip (SV.dens L ρ xs)).foldl (fun t (p, v) => t.setIfInBounds p v) at')[i]? = some v ∧ Rel L ρ x v
  | [], xs, t, at', hs, h => ⟨by simpa [setTmps] using hs, by simpa [setTmps] using h⟩
  | p :: ps, [], t, at', hs, h => ⟨by simpa [setTmps, SV.dens] using hs, by simpa [setTmps, SV.dens] using h⟩
  | p :: ps, x :: xs, t, at', hs, h => by
    simp only [setTmps, SV.dens, List.zip_cons_cons, List.foldl_cons]
    refine setTmps_ok ps xs _ _ (by simp [hs]) fun i y hy => ?_
    rw [List.getElem?_set] at hy
    split at hy
    · rename_i e; subst e
      split at hy
      · rename_i hlt
        cases hy
        exact ⟨x.den L ρ, by simp [hs, hlt], .inr rfl⟩
      · cases hy
    · rename_i hne
      obtain ⟨v, hv, hr⟩ := h i y hy
      exact ⟨v, by rw [Array.getElem?_setIfInBounds_ne hne]; exact hv, hr⟩
theorem Ex.code_inj {e e' : Ex} (h : e.code = e'.code) : e = e' := by
  cases e <;> cases e' <;> simp [Ex.code] at h ⊢ <;> omega
theorem Ex.code_zero {e : Ex} (h : e.code = 0) : e = .normal := Ex.code_inj (e' := .normal) h
theorem leaves_ne : ∀ {c : Code} {e : Ex}, e ∈ Code.leaves c → e ≠ .normal := by
  intro c
  induction c with
  | ret => intro e h; simp [Code.leaves] at h; subst h; simp
  | exit id => intro e h; simp [Code.leaves] at h; subst h; simp
  | seq a b ia ib => intro e h; simp only [Code.leaves, List.mem_append] at h; exact h.elim ia ib
  | cond c a b ia ib => intro e h; simp only [Code.leaves, List.mem_append] at h; exact h.elim ia ib
  | block id b ib => intro e h; simp only [Code.leaves, List.mem_filter] at h; exact ib h.1
  | loop b ib => intro e h; exact ib h
  | rangeFunc f ps a b _ ib => intro e h; exact ib h
  | scope b ib => intro e h; exact ib h
  | _ => intro e h; simp [Code.leaves] at h
theorem den_rest {P : Program} {L : List Nat} {ρ : Env} {h : HW} {A : List (List U → HW → Prop)} {nv : Nat} {c : Nat} (hnv : Env.int ρ nv = c) (T : Ex → Tree) : ∀ (es : List Ex), (∀ e ∈ es, e ≠ .normal) →
    den P R Dn (es.foldr (fun e t => .ite (.cmp .eql (.var nv) (.lit e.code)) (T e) t) (T .normal)) L ρ h A → ∀ (e : Ex), e.code = c → (e = .normal ∨ e ∈ es) → den P R Dn (T e) L ρ h A
  | [], _, hd, e, _, he => by
    rcases he with rfl | he
    · exact hd
    · cases he
  | x :: es, hn, hd, e, hc, he => by
    simp only [List.foldr_cons] at hd
    by_cases hx : x.code = c
    · have : e = x := Ex.code_inj (hc.trans hx.symm)
      subst this
      exact hd.1 (by simp [BT.eval, IT.eval, cm, hnv, hx])
    · refine den_rest hnv T es (fun e he => hn e (by simp [he])) (hd.2 (by simp [BT.eval, IT.eval, cm, hnv]; omega)) e hc ?_
      rcases he with he | he
      · exact .inl he
      · rcases List.mem_cons.1 he with rfl | he
        · exact absurd hc hx
        · exact .inr he

theorem go_sound : ∀ (n : Nat) (R : Value → HW → Prop) (C : Cfg) (r : Option Nat) (Dn : Nat → List U → HW → Prop) (Qb : Exit → Act → World → Prop) (F0 : HW) (_ : C.P.follows .mixedOrders = true) (_ : C.res.isSome = true → r = none)
    (_ : ∀ Ds e st L ρ h A a w, den C.P R Dn (retTree C.P C.res e st) L ρ h A → ρ.length = st.nv → Fr L ρ (marks Ds) st.tmps a → MOk F0 Ds → Inv F0 Ds L ρ st.blks h w → Qb e.toExit a w)
    (task : Task) (k : List K) (st : St) (Ds L : List Nat) (ρ : Env) (h : HW) (A : List (List U → HW → Prop)) (J : Nat → Act → World → Prop) (a : Act) (w : World),
      den C.P R Dn (go C n task k st) L ρ h A → ρ.length = st.nv → EnvOk ρ → KOk r C.P F0 Dn Qb A J L ρ k → Fr L ρ (marks Ds) st.tmps a → MOk F0 Ds → Inv F0 Ds L ρ st.blks h w → TW C r Qb J k (mk1 F0 Ds) (kw L ρ st.blks h) task a w := by
  intro n
  induction n with
  | zero => intro R C r Dn Qb F0 _ _ _ task k st Ds L ρ h A J a w hden; exact hden.elim
  | succ n IH =>
    intro R C r Dn Qb F0 hmix hres hbot task k st Ds L ρ h A J a w hden hlen he hk hfr hmo hw
    have ih := IH R C r Dn Qb F0 hmix hres hbot
    cases task with
    | code c =>
      simp only [go] at hden
      split at hden
      · generalize joinAnn C st c = ann at hden
        generalize ann.tmps.map (·.1) = tm at hden
        generalize junkDead C (joinHead st c tm (headSt st (Code.dsts c) ann)) = hd at hden
        generalize (ann.cells.map fun (b, o, _) => (b, o)) = cl at hden
        generalize ann.tmps.map (·.2) ++ ann.cells.map (·.2.2) = shs at hden
        split at hden
        · rename_i hcheck
          simp only [Bool.and_eq_true, beq_iff_eq] at hcheck
          obtain ⟨hbl, hnv⟩ := hcheck
          obtain ⟨I, hone, hrest⟩ := hden
          have hLb : L.length = hd.blks.length := by rw [hbl]; exact hw.1.len
          let J' : Nat → Act → World → Prop := fun l => if l = loopLvl k then KQ r C.P Qb J k .normal else J l
          have hJ : ∀ l, l < loopLvl k → J' l = J l := fun l hl => by simp only [J']; rw [if_neg (by omega)]
          have hJ0 : J' (loopLvl k) = KQ r C.P Qb J k .normal := by simp [J']
          have hAlen := hk.len
          have hkk : KOk r C.P F0 Dn Qb (A.take (loopLvl k) ++ [I]) J' L ρ (.loop (loopLvl k) hd st.nv shs tm cl :: k) := by
            refine ⟨⟨rfl, L, [], ρ, [], _, by simp, by simp, hlen, hLb, by rw [List.getElem?_append_right (by rw [List.length_take]; exact Nat.min_le_left _ _), List.length_take, Nat.min_eq_left hAlen, Nat.sub_self]; rfl, ?_⟩, ?_⟩
            · intro us2 h2 Ds2 a2 w2 hus2 hfr2 hmo2 hw2 hI2
              rw [hJ0]
              have := hk.more [] us2
              rw [List.append_nil] at this
              exact ih (.exit .normal) k hd Ds2 L (ρ ++ us2) h2 A J a2 w2 (hrest us2 h2 hus2 hI2 ⟨w2, hw2.1⟩) (by rw [hnv, List.length_append, freshs_len shs us2 st.nv hus2, ← hlen]) (he.append (UsOk.env shs us2 hus2)) this hfr2 hmo2 hw2
            · exact KOk.inner hJ hAlen (Nat.le_refl _) hk (I := I)
          have := IH R { C with joins := C.joins.filter (· != Code.jkey c) } r Dn Qb F0 hmix hres hbot (.code c) (.loop (loopLvl k) hd st.nv shs tm cl :: k) st Ds L ρ h _ J' a w hone hlen he hkk hfr hmo hw
          simp only [TW, KQ, hJ0, KQ_inner hJ (Nat.le_refl _) hk] at this
          refine wpIn_mono this fun e a2 w2 hq => ?_
          cases e <;> exact hq
        · exact hden.elim
      exact ih (.body c) k st Ds L ρ h A J a w hden hlen he hk hfr hmo hw
    | body c =>
      cases c with
      | skip => exact wpIn_skip (ih (.exit .normal) k st Ds L ρ h A J a w hden hlen he hk hfr hmo hw)
      | region id ops draw =>
        cases draw with
        | false =>
          simp only [go] at hden
          split at hden
          · rename_i hok
            have := ih (.lst ops ((List.range ops.size).map fun i => (i, false, 0))) k st Ds L ρ h A J a w hden hlen he hk hfr hmo hw
            refine wpIn_region (opsW.wpOpsIn (okSeq_spec hok) (fun a w h => h) _ _ _ ?_)
            have := Plan.seq _ _ a w this hw.1 hw.2.1 hw.2.2
            rw [List.map_map] at this
            have hid : ((fun e : Ent => e.1) ∘ fun i : Nat => ((i, false, 0) : Ent)) = fun i => i := rfl
            rw [hid, List.map_id'] at this
            exact this
          · exact hden.elim
        | true =>
          simp only [go] at hden
          split at hden
          · rename_i hok
            have := ih (.lst ops (canon ops (befOf ops))) k st Ds L ρ h A J a w hden hlen he hk hfr hmo hw
            exact wpIn_region_plan hmix hok (fun a w h => h) this hw.1 hw.2.1 hw.2.2
          · exact hden.elim
      | seq x y => exact wpIn_seq (ih (.code x) (.seq y :: k) st Ds L ρ h A J a w hden hlen he hk hfr hmo hw)
      | cond c x y =>
        simp only [go] at hden
        have hc := hfr.ev c
        split at hden
        · rename_i e; rw [e] at hc
          exact wpIn_cond (hc.of_ne (by simp)) (ih (.code x) k st Ds L ρ h A J a w hden hlen he hk hfr hmo hw)
        · rename_i e; rw [e] at hc
          exact wpIn_cond (hc.of_ne (by simp)) (ih (.code y) k st Ds L ρ h A J a w hden hlen he hk hfr hmo hw)
        · rename_i t _ _ e; rw [e] at hc
          refine wpIn_cond_split (hc.of_ne (by simp)) (fun ht => ?_) (fun ht => ?_)
          · exact ih (.code x) k (st.subst t true) Ds L ρ h A J a w (hden.1 ht) hlen he hk (hfr.subst ht) hmo hw
          · exact ih (.code y) k (st.subst t false) Ds L ρ h A J a w (hden.2 ht) hlen he hk (hfr.subst ht) hmo hw
        · exact hden.elim
      | block id b => exact wpIn_block (ih (.code b) (.block id :: k) st Ds L ρ h A J a w hden hlen he hk hfr hmo hw)
      | loop b =>
        simp only [go] at hden
        generalize (C.ann.find? fun x => !x.join && x.key == Code.key b).getD (liveAnn C (autoAnn st b)) = ann at hden
        generalize junkDead C (headSt st (Code.dsts b) ann) = hd at hden
        generalize ann.tmps.map (·.1) = tm at hden
        generalize (ann.cells.map fun (b, o, _) => (b, o)) = cl at hden
        generalize ann.tmps.map (·.2) ++ ann.cells.map (·.2.2) = shs at hden
        split at hden
        · rename_i hcheck
          simp only [Bool.and_eq_true, beq_iff_eq] at hcheck
          obtain ⟨⟨⟨hfit, hbl⟩, hnv⟩, _⟩ := hcheck
          obtain ⟨I, m0, hI, hround⟩ := hden
          have hLb : L.length = hd.blks.length := by rw [hbl]; exact hw.1.len
          obtain ⟨hus, hfr0, hblk0⟩ := fits_sound hfit he hfr hw.1.blk (L0 := L) (L1 := []) (ρ0 := ρ) (ρ1 := []) (by simp) (by simp) hlen hLb
          refine wpIn_loop_nat (fun m a' w' => ∃ us h1 Ds', UsOk shs us ∧ Fr L (ρ ++ us) (marks Ds') hd.tmps a' ∧ MOk F0 Ds' ∧ Inv F0 Ds' L (ρ ++ us) hd.blks h1 w' ∧ I m us h1)
            ⟨_, h, Ds, hus, hfr0, hmo, hw.weak (L0 := L) (L1 := []) (by simp) hLb hblk0 hw.1.hold (fun b hb => .inl hb), hI⟩ ?_
          rintro m a' w' ⟨us, h1, Ds', hus', hfr', hmo', hw', hI'⟩
          have hbody := hround m us h1 hus' hI' ⟨w', hw'.1⟩
          let J' : Nat → Act → World → Prop := fun l => if l = loopLvl k then fun a2 w2 => ∃ m', m' < m ∧ ∃ us h1 Ds', UsOk shs us ∧ Fr L (ρ ++ us) (marks Ds') hd.tmps a2 ∧ MOk F0 Ds' ∧ Inv F0 Ds' L (ρ ++ us) hd.blks h1 w2 ∧ I m' us h1 else J l
          have hJ : ∀ l, l < loopLvl k → J' l = J l := fun l hl => by simp only [J']; rw [if_neg (by omega)]
          have hJ0 : J' (loopLvl k) = fun a2 w2 => ∃ m', m' < m ∧ ∃ us h1 Ds', UsOk shs us ∧ Fr L (ρ ++ us) (marks Ds') hd.tmps a2 ∧ MOk F0 Ds' ∧ Inv F0 Ds' L (ρ ++ us) hd.blks h1 w2 ∧ I m' us h1 := by simp [J']
          have hAlen := hk.len
          have hkk : KOk r C.P F0 Dn Qb (A.take (loopLvl k) ++ [fun us' h' => ∃ m', m' < m ∧ I m' us' h']) J' L (ρ ++ us) (.loop (loopLvl k) hd st.nv shs tm cl :: k) := by
            refine ⟨⟨rfl, L, [], ρ, us, _, by simp, rfl, hlen, hLb, by rw [List.getElem?_append_right (by rw [List.length_take]; exact Nat.min_le_left _ _), List.length_take, Nat.min_eq_left hAlen, Nat.sub_self]; rfl, ?_⟩, ?_⟩
            · rintro us2 h2 Ds2 a2 w2 hus2 hfr2 hmo2 hw2 ⟨m', hm', hI2⟩
              rw [hJ0]
              exact ⟨m', hm', us2, h2, Ds2, hus2, hfr2, hmo2, hw2, hI2⟩
            · have := (KOk.inner hJ hAlen (Nat.le_refl _) hk (I := fun us' h' => ∃ m', m' < m ∧ I m' us' h')).more [] us
              simpa using this
          have := ih (.code b) (.loop (loopLvl k) hd st.nv shs tm cl :: k) hd Ds' L (ρ ++ us) h1 _ J' a' w' hbody (by rw [hnv, List.length_append, freshs_len shs us st.nv hus', ← hlen]) (he.append (UsOk.env shs us hus')) hkk hfr' hmo' hw'
          simp only [TW, KQ, hJ0, KQ_inner hJ (Nat.le_refl _) hk] at this
          exact this
        · exact hden.elim
      | rangeFunc f ps as b =>
        simp only [go] at hden
        generalize (C.ann.find? fun x => !x.join && x.key == Code.key b).getD (autoAnn st b) = ann at hden
        generalize hpsh : (ps.toList.map fun p => ((ann.tmps.find? (·.1 == p)).map (·.2)).getD ((parShOf C.P (Code.opers as ++ Code.opers b) p).getD (Sh.int .i64))) = psh at hden
        generalize junkTmps (headSt st [] { ann with tmps := [] }) = hd at hden
        generalize (ann.cells.map fun (b, o, _) => (b, o)) = cl at hden
        generalize ann.cells.map (·.2.2) = shs at hden
        generalize hes : (Code.leaves b).eraseDups = es at hden
        have hesn : ∀ e ∈ es, e ≠ .normal := fun e hm => leaves_ne (c := b) (by rw [← hes] at hm; exact (List.mem_eraseDups.1 hm))
        split at hden
        · rename_i hcheck
          simp only [Bool.and_eq_true, beq_iff_eq] at hcheck
          obtain ⟨⟨⟨⟨⟨⟨hres', hfit⟩, hbl⟩, hnv⟩, hsc⟩, hsch⟩, hfirm⟩ := hcheck
          have hr : r = none := hres hres'
          subst hr
          obtain ⟨gf, lb, N, X, pre, hf, h0, I, E, hfv, eg, hsplit, ho0, hof, hdj, hxs, hiter, hI0, hpre, hbody, hend, hleft⟩ := hden
          have hLb : L.length = hd.blks.length := by rw [hbl]; exact hw.1.len
          obtain ⟨hus0, _, hblk0⟩ := fits_sound hfit he hfr hw.1.blk (L0 := L) (L1 := []) (ρ0 := ρ) (ρ1 := []) (by simp) (by simp) hlen hLb
          generalize hus0e : Sh.uss L ρ shs (valsAt st [] cl) = us0 at hus0 hblk0 hI0
          have hg : a.eval f = .func (.func gf) #[] lb := by rw [(hfr.ev f).firm hfirm]; exact hfv
          obtain ⟨hwd, hmk, hmd⟩ := hw
          have hlt := hwd.lt
          obtain ⟨hh0, hhf⟩ := hsplit w hwd
          simp only [scSt, Bool.and_eq_true] at hsc
          -- the frame with one mark more
          have hmo1 : MOk F0 (w.heap.size :: Ds) := ⟨List.nodup_cons.2 ⟨fun hm => by have := (mk1 F0 Ds).inb w _ hmk (.inr hm); omega, hmo.1⟩, fun d hdm => (List.mem_cons.1 hdm).elim (fun e => e ▸ fun hm => by have := (mk1 F0 Ds).inb w _ hmk (.inl hm); omega) (hmo.2 d)⟩
          have hmlt : ∀ b, (mk1 F0 (w.heap.size :: Ds)).own b → b ≤ w.heap.size := fun b hb => by
            rcases hb with hb | hb
            · have := (mk1 F0 Ds).inb w b hmk (.inl hb); omega
            · rcases List.mem_cons.1 hb with rfl | hb
              · exact Nat.le_refl _
              · have := (mk1 F0 Ds).inb w b hmk (.inr hb); omega
          refine wpIn_rangeFunc ?_
          intro fn hfn
          obtain ⟨rec, hrec⟩ : ∃ rec : Loop, rec = { state := .ready, pending := none, fn, tmps := a.tmps, params := ps, assign := as, body := b, defers := w.heap.size } := ⟨_, rfl⟩
          have hw1 : ((w.alloc (.deferred (some []))).alloc (.loop rec)).heap.size = w.heap.size + 2 := by simp
          have hold : ∀ k, k < w.heap.size → ((w.alloc (.deferred (some []))).alloc (.loop rec)).heap[k]? = w.heap[k]? := fun k hk' => (heap_alloc_lt _ _ k (by simp; omega)).trans (heap_alloc_lt _ _ k hk')
          have hdef : ((w.alloc (.deferred (some []))).alloc (.loop rec)).heap[w.heap.size]? = some (.deferred (some [])) := (heap_alloc_lt _ _ _ (by simp)).trans (heap_alloc_eq _ _)
          have hloop : ((w.alloc (.deferred (some []))).alloc (.loop rec)).heap[w.heap.size + 1]? = some (.loop rec) := by
            have := heap_alloc_eq (w.alloc (.deferred (some []))) (.loop rec)
            simpa using this
          generalize hw1e : (w.alloc (.deferred (some []))).alloc (.loop rec) = w1 at hw1 hold hdef hloop
          have hkeep1 : ∀ S : HW, S.H w → S.H w1 := fun S hS => S.stab w w1 hS (by omega) (fun b hb => hold b (S.inb w b hS hb)) (by rw [← hw1e]; rfl) (by rw [← hw1e]; rfl) (by rw [← hw1e]; rfl)
          refine ⟨w.heap.size + 1, [{ target := .collected w.heap.size, args := #[] }], w1, { target := .fn (.func gf) lb, args := #[.func (.yield (w.heap.size + 1)) #[] #[]] }, w1, gf,
            #[.func (.yield (w.heap.size + 1)) #[] #[]] ++ lb, w1, ?_, ?_, ?_, ?_, fun h => by simp [wideR, Fence.wide] at h, ?_⟩
          · rw [← hw1e, hrec]; exact run_enterLoop_outer _ _ _ _ _
          · simp only [resolve, hg]
            simp [go_sem]
          · intro f' hf'; trivial
          · simp [invoke, go_sem, eg]
          -- what is known around the rounds
          let out : List U → HW → Obj → HW := fun us h1 o => ((kw L (ρ ++ us) hd.blks h1).sep (mk1 F0 (w.heap.size :: Ds))).add (w.heap.size + 1) o
          let Jp : (List U → HW → Prop) → Obj → HW → Prop := fun Q o T => ∃ us h1, T = out us h1 o ∧ UsOk shs us ∧ Q us h1 ∧ Disj (mk1 F0 (w.heap.size :: Ds)) (kw L (ρ ++ us) hd.blks h1) ∧ ¬ (kw L (ρ ++ us) hd.blks h1).own (w.heap.size + 1)
          let J2 : Nat → HW → Prop := fun k => Jp (I k) (.loop rec)
          let E2 : HW → Prop := fun T => ∃ (e : Ex) (cd : Code), e ∈ es ∧ ((e = .ret ∧ cd = .ret) ∨ ∃ id, e = .exit id ∧ cd = .exit id) ∧ Jp (E e.code) (.loop { rec with state := .done, pending := some cd }) T
          have hcall := hiter (.func (.yield (w.heap.size + 1)) #[] #[]) J2 E2 (out us0 h0 (.loop rec)) w1 rfl ?yield ?pre ?start ?hstart (hkeep1 hf hhf) ?disj
          case pre =>
            rintro k T W ⟨us, h1, rfl, hus, hI, _, _⟩ hT
            exact hpre k us h1 W hI hT.1.1
          case start =>
            refine ⟨us0, h0, rfl, hus0, hI0, fun b h1 h2 => ?_, fun h2 => ?_⟩
            · rcases h1 with h1 | h1
              · exact hmd b (.inl h1) (h2.imp (ho0 b) fun h => h)
              · rcases List.mem_cons.1 h1 with rfl | h1
                · rcases h2 with h2 | h2
                  · have := h.inb w _ hwd.hold (ho0 _ h2); omega
                  · have := hlt _ h2; omega
                · exact hmd b (.inr h1) (h2.imp (ho0 b) fun h => h)
            · rcases h2 with h2 | h2
              · have := h.inb w _ hwd.hold (ho0 _ h2); omega
              · have := hlt _ h2; omega
          case hstart =>
            refine ⟨⟨⟨hLb, fun j x hx => ?_, hwd.nd, fun b hb h1 => hwd.good b hb (ho0 b h1), hkeep1 h0 hh0⟩, (hkeep1 (mk1 F0 Ds) hmk).1, fun d hdm => ?_⟩, hloop⟩
            · have hj : j < L.length := by rw [hLb]; exact (List.getElem?_eq_some_iff.1 hx).1
              rw [hold _ (hlt _ (getD_mem hj))]
              exact hblk0 j x hx
            · rcases List.mem_cons.1 hdm with rfl | hdm
              · exact hdef
              · exact (hkeep1 (mk1 F0 Ds) hmk).2 d hdm
          case disj =>
            intro b h1 h2
            have hbw := hf.inb w b hhf h2
            rcases h1 with ((h1 | h1) | h1) | h1
            · exact hdj b h1 h2
            · exact hwd.good b h1 (hof b h2)
            · rcases h1 with h1 | h1
              · exact hmd b (.inl h1) (.inl (hof b h2))
              · rcases List.mem_cons.1 h1 with rfl | h1
                · omega
                · exact hmd b (.inr h1) (.inl (hof b h2))
            · omega
          case yield =>
            rintro k x T hx W hxk ⟨us, h1a, rfl, hus, hI, hdma, hdla⟩ hT hTx hdx
            obtain ⟨⟨hWda, hWm⟩, hWl⟩ := hT
            obtain ⟨ux, hux, rfl⟩ := hxk
            have huxo := hxs k ux hx hux
            obtain ⟨h1, h1e⟩ : ∃ h1 : HW, h1 = h1a.sep hx := ⟨_, rfl⟩
            have hown : ∀ b, (kw L (ρ ++ us) hd.blks h1).own b ↔ (kw L (ρ ++ us) hd.blks h1a).own b ∨ hx.own b := fun b => by
              rw [h1e]
              constructor
              · rintro ((q | q) | q)
                · exact .inl (.inl q)
                · exact .inr q
                · exact .inl (.inr q)
              · rintro ((q | q) | q)
                · exact .inl (.inl q)
                · exact .inr q
                · exact .inl (.inr q)
            have hWd : Wd L (ρ ++ us) hd.blks h1 W := by
              rw [h1e]
              refine ⟨hWda.len, hWda.blk, hWda.nd, fun b hb q => ?_, hWda.hold, hTx⟩
              rcases q with q | q
              · exact hWda.good b hb q
              · exact hdx b (.inl (.inl (.inr hb))) q
            have hdm : Disj (mk1 F0 (w.heap.size :: Ds)) (kw L (ρ ++ us) hd.blks h1) := fun b q1 q2 => by
              rcases (hown b).1 q2 with q2 | q2
              · exact hdma b q1 q2
              · exact hdx b (.inl (.inr q1)) q2
            have hdl : ¬ (kw L (ρ ++ us) hd.blks h1).own (w.heap.size + 1) := fun q => by
              rcases (hown _).1 q with q | q
              · exact hdla q
              · exact hdx _ (.inr rfl) q
            have hdisj : Disj h1a hx := fun b q1 q2 => hdx b (.inl (.inl (.inl q1))) q2
            have hbody1 := hbody k us ux h1a hx hus hux hI hdisj ⟨W, by rw [← h1e]; exact hWd⟩
            rw [← h1e] at hbody1
            have hback : ∀ S o W', Grow (out us h1 o) W S W' → Grow ((out us h1a o).sep hx) W S W' := fun S o W' hg => ⟨hg.size, fun b hb hn => hg.same b hb fun q => hn (by
              rcases q with (q | q) | q
              · rcases (hown b).1 q with q | q
                · exact .inl (.inl (.inl q))
                · exact .inr q
              · exact .inl (.inl (.inr q))
              · exact .inl (.inr q)), hg.tape, hg.os, hg.output⟩
            have hlW : w.heap.size + 1 < W.heap.size := (Array.getElem?_eq_some_iff.1 hWl).1
            have hlen2 : (ρ ++ us).length = hd.nv := by rw [hnv, List.length_append, freshs_len shs us st.nv hus, ← hlen]
            have hxv : SV.dens [] ux (Sh.freshs psh 0).1 = SV.dens L (ρ ++ us ++ ux) (Sh.freshs psh (ρ ++ us).length).1 := by
              have := letters_shifts (L := []) (L' := L) psh ux huxo [] [] (ρ ++ us) []
              simpa using this
            rw [hxv]
            have hxl : (Sh.freshs psh (ρ ++ us).length).1.length = ps.size := by rw [freshs_length, ← hpsh]; simp
            have hy := run_yield (P := C.P) (args := (SV.dens L (ρ ++ us ++ ux) (Sh.freshs psh (ρ ++ us).length).1).toArray) hWl (by rw [hrec, List.size_toArray, dens_length]; exact hxl)
            have hrun : (do let d ← Deferred.ofValue (.func (.yield (w.heap.size + 1)) #[] #[]) (SV.dens L (ρ ++ us ++ ux) (Sh.freshs psh (ρ ++ us).length).1).toArray; invoke d.target d.args : Sem Next).run C.P W = _ :=
              (show _ = (Instr.yield (w.heap.size + 1) (SV.dens L (ρ ++ us ++ ux) (Sh.freshs psh (ρ ++ us).length).1).toArray).run C.P W by simp [Deferred.ofValue, invoke, go_sem]).trans hy
            refine .inr ⟨_, _, _, _, _, _, hrun, roundIn_of_wpIn trivial ?_⟩
            rw [hrec]
            simp only
            have hWl0 : W.heap[w.heap.size + 1]? = some (.loop { state := .ready, pending := none, fn, tmps := a.tmps, params := ps, assign := as, body := b, defers := w.heap.size }) := by rw [hrec] at hWl; exact hWl
            have hwd2 : Wd L (ρ ++ us ++ ux) hd.blks h1 W := (Wd.letters (by rw [hlen2]; exact hsch)).2 hWd
            -- what the round must leave as it lies
            let Fk : Obj → HW := fun ob => {
              H := fun w' => W.heap.size ≤ w'.heap.size ∧ w'.heap[w.heap.size + 1]? = some ob ∧ (∀ k, k < W.heap.size → ¬ (kw L (ρ ++ us) hd.blks h1).own k → k ≠ w.heap.size + 1 → w'.heap[k]? = W.heap[k]?) ∧ w'.tape = W.tape ∧ w'.os = W.os ∧ w'.output = W.output
              own := fun k => k < W.heap.size ∧ ¬ (kw L (ρ ++ us) hd.blks h1).own k
              stab := fun wa wb ⟨q1, q2, q3, q4, q5, q6⟩ hs hk' ht ho hu => ⟨Nat.le_trans q1 hs, (hk' _ ⟨hlW, hdl⟩).trans q2, fun k k1 k2 k3 => (hk' k ⟨k1, k2⟩).trans (q3 k k1 k2 k3), ht.trans q4, ho.trans q5, hu.trans q6⟩
              inb := fun wa b q hb => Nat.lt_of_lt_of_le hb.1 q.1 }
            let F1 : HW := Fk (.loop { rec with state := .busy })
            let Fa : HW := Fk (.loop rec)
            have hFa : Fa.H W := ⟨Nat.le_refl _, hWl, fun _ _ _ _ => rfl, rfl, rfl, rfl⟩
            have hinv2 : Inv Fa [] L (ρ ++ us ++ ux) hd.blks h1 W := by
              refine ⟨hwd2, ⟨hFa, by simp⟩, fun b q1 q2 => ?_⟩
              rcases q1 with q1 | q1
              · rw [kw_letters (by rw [hlen2]; exact hsch)] at q2
                exact q1.2 q2
              · cases q1
            let Qb2 : Exit → Act → World → Prop := fun e _ w' => ∃ (ex : Ex) (us' : List U) (h2 : HW), e = ex.toExit ∧ (ex = .normal ∨ ex ∈ es) ∧ UsOk shs us' ∧ Wd L (ρ ++ us') hd.blks h2 w' ∧ F1.H w' ∧ Disj F1 (kw L (ρ ++ us') hd.blks h2) ∧
              (∀ w, h2.H w → hx.H w) ∧ ((ex.code = 0 ∧ I (k + 1) us' h2) ∨ (ex.code ≠ 0 ∧ E ex.code us' h2))
            let Qa : Exit → Act → World → Prop := fun e a1 w1 => e = .normal ∧ ∃ w2, (Instr.beginRound (w.heap.size + 1)).run C.P w1 = .ok () w2 ∧ b.wpIn (wideR (some (w.heap.size + 1))) 0 C.P Qb2 a1 w2
            have hk' : KOk (some (w.heap.size + 1)) C.P Fa (fun c us' h' => (∀ w, h'.H w → hx.H w) ∧ ((c = 0 ∧ I (k + 1) us' h') ∨ (c ≠ 0 ∧ E c us' h'))) Qa [] (fun _ _ _ => False) L (ρ ++ us ++ ux) [.start b es hd st.nv shs cl] := by
              refine ⟨by simp [loopLvl], F1, Qb2, L, [], ρ, us ++ ux, by simp, by simp, hlen, hLb, ?_, ?_⟩
              · intro e us' h2 Ds' a' w' hees hus' hinv' hdn
                exact ⟨e, us', h2, rfl, hees, hus', hinv'.1, hinv'.2.1.1, fun b hb => hinv'.2.2 b (.inl hb), hdn⟩
              · intro Ds' L' ρ' blks' h' a' w' hmo' hi'
                obtain ⟨q1, q2, q3, q4, q5, q6⟩ := hi'.2.1.1
                have hlw' : w.heap.size + 1 < w'.heap.size := by omega
                have hn : ∀ k, k ≠ w.heap.size + 1 → (w'.putObj (w.heap.size + 1) (.loop { rec with state := .busy })).heap[k]? = w'.heap[k]? := fun k hne => World.putObj_heap_other hne
                refine ⟨w'.putObj (w.heap.size + 1) (.loop { rec with state := .busy }), hmo', ⟨(kw L' ρ' blks' h').stab w' _ hi'.1 (by simp) (fun b hb => hn b fun e => hi'.2.2 b (.inl (e ▸ ⟨hlW, hdl⟩)) hb) rfl rfl rfl,
                  ⟨⟨by simpa using q1, World.putObj_heap_same hlw', fun k k1 k2 k3 => (hn k k3).trans (q3 k k1 k2 k3), q4, q5, q6⟩, fun d hd' => (hn d fun e => hmo'.2 d hd' (e ▸ ⟨hlW, hdl⟩)).trans (hi'.2.1.2 d hd')⟩, hi'.2.2⟩, fun hb => ⟨rfl, _, run_beginRound q2 (by rw [hrec]), hb⟩⟩
            have hset := setTmps_ok (L := L) (ρ := ρ ++ us ++ ux) ps.toList (Sh.freshs psh (ρ ++ us).length).1 st.tmps a.tmps hfr.size
              (Fr.more (nb := st.blks.length) (nv := st.nv) (ρ' := ρ ++ us ++ ux) (by rw [← hlen, List.append_assoc]; exact EqUpTo.append' ρ (us ++ ux)) (EqLoc.refl _ _) hsc.2 hfr).tm
            have hfold : (ps.zip (SV.dens L (ρ ++ us ++ ux) (Sh.freshs psh (ρ ++ us).length).1).toArray).foldl (fun tmps (t, a) => tmps.setIfInBounds t a) a.tmps =
                (ps.toList.zip (SV.dens L (ρ ++ us ++ ux) (Sh.freshs psh (ρ ++ us).length).1)).foldl (fun t (p, v) => t.setIfInBounds p v) a.tmps := by
              rw [← Array.foldl_toList, Array.toList_zip]
            rw [hfold]
            have := IH (fun _ _ => False) { C with res := none } (some (w.heap.size + 1)) (fun c us' h' => (∀ w, h'.H w → hx.H w) ∧ ((c = 0 ∧ I (k + 1) us' h') ∨ (c ≠ 0 ∧ E c us' h'))) Qa Fa hmix (by simp) (fun _ e st L ρ h A a w hd _ _ _ _ => hd.elim)
              (.code as) [.start b es hd st.nv shs cl] { tmps := setTmps ps.toList (Sh.freshs psh hd.nv).1 st.tmps, blks := hd.blks, nv := (Sh.freshs psh hd.nv).2 } [] L (ρ ++ us ++ ux) h1 [] (fun _ _ _ => False)
              { tmps := (ps.toList.zip (SV.dens L (ρ ++ us ++ ux) (Sh.freshs psh (ρ ++ us).length).1)).foldl (fun t (p, v) => t.setIfInBounds p v) a.tmps, defers := [] } W
              hbody1 (by rw [List.length_append, hlen2]; exact (freshs_len psh ux hd.nv huxo).symm) ((he.append (UsOk.env shs us hus)).append (UsOk.env psh ux huxo)) hk'
              ⟨by rw [hset.1, hlen2], rfl, by rw [← hlen2]; exact hset.2⟩ ⟨List.nodup_nil, by simp⟩ hinv2
            refine wpIn_mono this ?_
            rintro _ a1 w1 ⟨rfl, w2, hbr, hbw⟩
            refine ⟨w2, hbr, wpIn_mono hbw ?_⟩
            rintro e a' w' ⟨ex, us', h2, rfl, hees, hus', hwd', hF', hdj', hret, hdn⟩
            obtain ⟨q1, q2, q3, q4, q5, q6⟩ := hF'
            have hlw' : w.heap.size + 1 < w'.heap.size := by omega
            have hnl : ¬ (kw L (ρ ++ us') hd.blks h2).own (w.heap.size + 1) := hdj' _ ⟨hlW, hdl⟩
            have hdm' : Disj (mk1 F0 (w.heap.size :: Ds)) (kw L (ρ ++ us') hd.blks h2) := fun b hb => hdj' b ⟨(mk1 F0 (w.heap.size :: Ds)).inb W b hWm hb, hdm b hb⟩
            have hG : ∀ T W', Grow (out us h1 (.loop rec)) W T W' → Grow ((out us h1a (.loop { state := .ready, pending := none, fn, tmps := a.tmps, params := ps, assign := as, body := b, defers := w.heap.size })).sep hx) W T W' := fun T W' hg => hback _ _ _ (by rw [← hrec]; exact hg)
            -- the world behind the round
            have fin : ∀ o, (out us' h2 o).H (w'.putObj (w.heap.size + 1) o) ∧ Grow (out us h1 (.loop rec)) W (out us' h2 o) (w'.putObj (w.heap.size + 1) o) := fun o => by
              have hpo : ∀ k, k ≠ w.heap.size + 1 → (w'.putObj (w.heap.size + 1) o).heap[k]? = w'.heap[k]? := fun k hne => World.putObj_heap_other hne
              refine ⟨⟨⟨(kw L (ρ ++ us') hd.blks h2).stab w' _ hwd' (by simp) (fun b hb => hpo b (fun e => hnl (e ▸ hb))) rfl rfl rfl, (mk1 F0 (w.heap.size :: Ds)).stab W _ hWm (by simpa using q1) (fun b hb => ?_) q4 q5 q6⟩, World.putObj_heap_same hlw'⟩, ⟨by simpa using q1, fun b hb hn => ?_, q4, q5, q6⟩⟩
              · have hbl := hmlt b hb
                rw [hpo b (by omega)]
                exact q3 b ((mk1 F0 (w.heap.size :: Ds)).inb W b hWm hb) (hdm b hb) (by omega)
              · have n1 : ¬ (kw L (ρ ++ us) hd.blks h1).own b := fun h => hn (.inl (.inl h))
                have n2 : ¬ (mk1 F0 (w.heap.size :: Ds)).own b := fun h => hn (.inl (.inr h))
                have n3 : b ≠ w.heap.size + 1 := fun h => hn (.inr h)
                refine ⟨fun h => ?_, (hpo b n3).trans (q3 b hb n1 n3)⟩
                rcases h with (h | h) | h
                · exact hdj' b ⟨hb, n1⟩ h
                · exact n2 h
                · exact n3 h
            cases ex with
            | normal =>
              have hdn : I (k + 1) us' h2 := by
                rcases hdn with hdn | hdn
                · exact hdn.2
                · exact absurd rfl hdn.1
              obtain ⟨g1, g2⟩ := fin (.loop rec)
              refine ⟨_, _, run_endRound none q2, .bool true, rfl, out us' h2 (.loop rec), ?_, ?_, fun w q => hret w q.1.1.hold, .inl ⟨rfl, us', h2, rfl, hus', hdn, hdm', hnl⟩⟩
              · have : ({ rec with state := if (none : Option Code).isNone then LoopState.ready else LoopState.done, pending := none } : Loop) = rec := by rw [hrec]; rfl
                simp only [] at this ⊢
                rw [this]; exact g1
              · have : ({ rec with state := if (none : Option Code).isNone then LoopState.ready else LoopState.done, pending := none } : Loop) = rec := by rw [hrec]; rfl
                simp only [] at this ⊢
                rw [this]; exact hG _ _ g2
            | ret =>
              have hdn : E (Ex.ret).code us' h2 := by
                rcases hdn with hdn | hdn
                · exact absurd hdn.1 (by simp [Ex.code])
                · exact hdn.2
              obtain ⟨g1, g2⟩ := fin (.loop { rec with state := .done, pending := some .ret })
              exact ⟨_, _, run_endRound (some .ret) q2, .bool false, rfl, _, g1, hG _ _ g2, fun w q => hret w q.1.1.hold, .inr ⟨rfl, .ret, .ret, hees.resolve_left (by simp), .inl ⟨rfl, rfl⟩, us', h2, rfl, hus', hdn, hdm', hnl⟩⟩
            | exit id =>
              have hdn : E (Ex.exit id).code us' h2 := by
                rcases hdn with hdn | hdn
                · exact absurd hdn.1 (by simp [Ex.code])
                · exact hdn.2
              obtain ⟨g1, g2⟩ := fin (.loop { rec with state := .done, pending := some (.exit id) })
              exact ⟨_, _, run_endRound (some (.exit id)) q2, .bool false, rfl, _, g1, hG _ _ g2, fun w q => hret w q.1.1.hold, .inr ⟨rfl, .exit id, .exit id, hees.resolve_left (by simp), .inr ⟨id, rfl, rfl⟩, us', h2, rfl, hus', hdn, hdm', hnl⟩⟩
          -- behind it
          refine callsIn_wideR (hcall.mono ?_)
          rintro e W' ⟨⟨v, rfl⟩, T, hT, _, hJE⟩
          have after : ∀ (e : Ex) (us : List U) (h1 : HW) (o o' : Obj), UsOk shs us → (out us h1 o).H W' → Disj (mk1 F0 (w.heap.size :: Ds)) (kw L (ρ ++ us) hd.blks h1) → ¬ (kw L (ρ ++ us) hd.blks h1).own (w.heap.size + 1) → (e = .normal ∨ e ∈ es) →
              den C.P R Dn (es.foldr (fun e t => .ite (.cmp .eql (.var hd.nv) (.lit e.code)) (go C n (.exit e) k { tmps := st.tmps, blks := hd.blks, nv := hd.nv + 1 }) t) (go C n (.exit .normal) k { tmps := st.tmps, blks := hd.blks, nv := hd.nv + 1 })) L (ρ ++ us ++ [.i (e.code : Nat)]) h1 A →
              KQ none C.P Qb J k e.toExit { a with defers := [{ target := .collected w.heap.size, args := #[] }] ++ a.defers } (W'.putObj (w.heap.size + 1) o') := by
            intro e us h1 o o' hus hT hdm hdl hees hd'
            have hlen2 : (ρ ++ us).length = hd.nv := by rw [hnv, List.length_append, freshs_len shs us st.nv hus, ← hlen]
            have hint : Env.int (ρ ++ us ++ [.i (e.code : Nat)]) hd.nv = (e.code : Nat) := by rw [← hlen2]; exact int_at _ _ _
            have hd2 := den_rest hint (fun e => go C n (.exit e) k { tmps := st.tmps, blks := hd.blks, nv := hd.nv + 1 }) es hesn hd' e rfl hees
            have hinv : Inv F0 (w.heap.size :: Ds) L (ρ ++ us) hd.blks h1 (W'.putObj (w.heap.size + 1) o') := by
              have hi0 : Inv F0 (w.heap.size :: Ds) L (ρ ++ us) hd.blks h1 W' := ⟨hT.1.1, hT.1.2, hdm⟩
              refine hi0.step (by simp) (fun b hb => World.putObj_heap_other fun e => ?_) rfl rfl rfl
              rcases hb with hb | hb
              · have := hmlt b hb; omega
              · exact hdl (e ▸ hb)
            exact IH R C none Dn Qb F0 hmix (fun _ => rfl) hbot (.exit e) k { tmps := st.tmps, blks := hd.blks, nv := hd.nv + 1 } (w.heap.size :: Ds) L (ρ ++ us ++ [.i (e.code : Nat)]) h1 A J _ _ hd2 (by rw [List.length_append, hlen2]; rfl)
              ((he.append (UsOk.env shs us hus)).append (by simp)) (by have := hk.more [] (us ++ [.i (e.code : Nat)]); simpa using this)
              (have hm := Fr.more (nb := st.blks.length) (nv := st.nv) (ρ' := ρ ++ us ++ [.i (e.code : Nat)]) (by rw [← hlen, List.append_assoc]; exact EqUpTo.append' ρ _) (EqLoc.refl _ _) hsc.2 hfr
               ⟨hm.size, by simp [marks, hfr.df], hm.tm⟩) hmo1 (hinv.more (by rw [hlen2]; exact hsch))
          rcases hJE with ⟨us, h1, rfl, hus, hI, hdm, hdl⟩ | ⟨e, cd, hees, hcd, us, h1, rfl, hus, hE, hdm, hdl⟩
          · refine ⟨none, W'.putObj (w.heap.size + 1) (.loop { rec with state := .exhausted }), (run_endLoop (P := C.P) hT.2 (by rw [hrec]; simp)).trans (by rw [hrec]), ?_⟩
            exact after .normal us h1 _ _ hus hT hdm hdl (.inl rfl) (hend us h1 hus hI ⟨W', hT.1.1⟩)
          · refine ⟨some cd, W'.putObj (w.heap.size + 1) (.loop { rec with state := .exhausted, pending := some cd }), (run_endLoop (P := C.P) hT.2 (by simp)).trans (by rfl), ?_⟩
            have hne : e.code ≠ 0 := fun h => hesn e hees (Ex.code_zero h)
            have := after e us h1 _ (.loop { rec with state := .exhausted, pending := some cd }) hus hT hdm hdl (.inr hees) (hleft e.code us h1 hne hus hE ⟨W', hT.1.1⟩)
            rcases hcd with ⟨rfl, rfl⟩ | ⟨id, rfl, rfl⟩
            · exact wpIn_ret this
            · exact wpIn_exit this
        · exact hden.elim
      | exit id => exact wpIn_exit (ih (.exit (.exit id)) k st Ds L ρ h A J a w hden hlen he hk hfr hmo hw)
      | ret => exact wpIn_ret (ih (.exit .ret) k st Ds L ρ h A J a w hden hlen he hk hfr hmo hw)
      | scope b => exact hden.elim
      | label l => exact hden.elim
      | goto l => exact hden.elim
      | refuse s => exact hden.elim
    | exit e =>
      cases k with
      | nil => exact hbot Ds e st L ρ h A a w hden hlen hfr hmo hw
      | cons x k =>
        cases x with
        | seq c =>
          simp only [go] at hden
          split at hden
          · rename_i hn; subst hn
            exact ih (.code c) k st Ds L ρ h A J a w hden hlen he hk hfr hmo hw
          · rename_i hn
            have := ih (.exit e) k st Ds L ρ h A J a w hden hlen he hk hfr hmo hw
            cases e <;> first | exact absurd rfl hn | exact this
        | block id =>
          simp only [go] at hden
          split at hden
          · rename_i hn; subst hn
            have := ih (.exit .normal) k st Ds L ρ h A J a w hden hlen he hk hfr hmo hw
            simp only [TW, KQ, Ex.toExit, Exit.inBlock, if_true] at this ⊢
            exact this
          · rename_i hn
            have := ih (.exit e) k st Ds L ρ h A J a w hden hlen he hk hfr hmo hw
            cases e with
            | normal => exact this
            | ret => exact this
            | exit id' =>
              have hne : ¬ id' = id := fun e => hn (by rw [e])
              simp only [TW, KQ, Ex.toExit, Exit.inBlock, if_neg hne] at this ⊢
              exact this
        | loop lvl head nv shs tm cl =>
          simp only [go] at hden
          split at hden
          · rename_i hn; subst hn
            split at hden
            · rename_i hfit
              obtain ⟨⟨h1, L0, L1, ρ0, ρ1, I, hL, hρ, h2, h3, h4, h5⟩, _⟩ := hk
              obtain ⟨hus, hfr0, hblk0⟩ := fits_sound hfit he hfr hw.1.blk hL hρ h2 h3
              obtain ⟨h2', hH, ho, I', hI', hi⟩ := hden
              rw [h4] at hI'; cases hI'
              refine h5 _ h2' Ds a w hus hfr0 hmo (hw.weak hL h3 hblk0 (hH w hw.1) fun b hb => ?_) hi
              have := ho b hb
              rw [hL, ← h3, List.drop_left] at this
              exact this
            · exact hden.elim
          · rename_i hn
            have := ih (.exit e) k st Ds L ρ h A J a w hden hlen he hk.2 hfr hmo hw
            cases e <;> first | exact absurd rfl hn | exact this
        | start b es head nv shs cl =>
          simp only [go] at hden
          split at hden
          · rename_i hn
            obtain rfl := hn.1
            obtain ⟨h0, F1, Q1, L0, L1, ρ0, ρ1, hL, hρ, h2, h3, h4, h5⟩ := hk
            obtain ⟨w2, hmo1, hinv1, hq⟩ := h5 Ds L ρ st.blks h a w hmo hw
            exact hq (IH R C r Dn Q1 F1 hmix hres (fun _ e st L ρ h A a w hd _ _ _ _ => by rw [hn.2] at hd; exact hd.elim) (.code b) [.round es head nv shs cl] st Ds L ρ h A J a w2 hden hlen he ⟨by simp [loopLvl], L0, L1, ρ0, ρ1, hL, hρ, h2, h3, h4⟩ hfr hmo1 hinv1)
          · exact hden.elim
        | round es head nv shs cl =>
          simp only [go] at hden
          split at hden
          · rename_i hfit
            obtain ⟨hees, hfit⟩ := hfit
            obtain ⟨_, L0, L1, ρ0, ρ1, hL, hρ, h2, h3, h5⟩ := hk
            obtain ⟨hus, _, hblk0⟩ := fits_sound hfit he hfr hw.1.blk hL hρ h2 h3
            obtain ⟨h2', hH, ho, hi⟩ := hden
            refine h5 e _ h2' Ds a w hees hus (hw.weak hL h3 hblk0 (hH w hw.1) fun b hb => ?_) hi
            have := ho b hb
            rw [hL, ← h3, List.drop_left] at this
            exact this
          · exact hden.elim
    | lst ops l =>
      cases l with
      | nil =>
        intro w' hS hF hd
        exact ih (.exit .normal) k st Ds L ρ h A J a w' hden hlen he hk hfr hmo ⟨hS, hF, hd⟩
      | cons x l =>
        obtain ⟨i, fr, p⟩ := x
        simp only [go] at hden
        split at hden
        · rename_i o hi
          rcases doOp_step (G := mk1 F0 Ds) hi hlen hw.1.len he hfr hden with ⟨c, b, hc, hd⟩ | hst
          · exact ih (.lst ops ((i, fr, p) :: l)) k (st.subst c b) Ds L ρ h A J a w hd hlen he hk (hfr.subst hc) hmo hw
          · refine PStep.mono (fun S a' hne haf => ?_) ⟨w, hw.1, hw.2.1, hw.2.2⟩ hst
            obtain ⟨st', L', ρ', h', rfl, hd, hl', he', ⟨l1, rfl⟩, ⟨u1, rfl⟩, hf'⟩ := haf
            obtain ⟨w', q1, q2, q3⟩ := hne
            exact ih (.lst ops l) k st' Ds _ _ h' A J a' w' hd hl' he' (hk.more l1 u1) hf' hmo ⟨q1, q2, q3⟩
        · exact hden.elim
end whole
end Go.Sy
