/- Memory as a map: contracts in its words, and a rule for each of the trees' nodes. -/
import Derived.Test.YtkhcfbdjmpodbaaDoorSyUse
set_option linter.unusedSimpArgs false
set_option linter.unusedVariables false
namespace Go.Sy
open Go Go.RowKit

/-! ### Letters checked by a run -/
def eatI : List U → Option (List U)
  | .i _ :: t => some t
  | _ => none
def eatB : List U → Option (List U)
  | .b _ :: t => some t
  | _ => none
def eatV : List U → Option (List U)
  | .v v :: t => if v.oneCell' = true then some t else none
  | _ => none
def eatP : List U → Option (List U)
  | .p _ :: t => some t
  | _ => none
def eatS : List U → Option (List U)
  | .p _ :: .i _ :: .i _ :: t => some t
  | _ => none
mutual
def Sh.eat : Sh → List U → Option (List U)
  | .int _, us => eatI us
  | .bool, us => eatB us
  | .val, us => eatV us
  | .ptr, us => eatP us
  | .sl, us => eatS us
  | .agg l, us => Sh.eats l us
  | .tup l, us => Sh.eats l us
def Sh.eats : List Sh → List U → Option (List U)
  | [], us => some us
  | s :: l, us => (s.eat us).bind (Sh.eats l)
end
theorem eat_int (k : IntKind) (us t : List U) (h : eatI us = some t) : ∃ u, us = u ++ t ∧ UOk (.int k) u := by
  unfold eatI at h; split at h
  · cases h; exact ⟨_, List.singleton_append.symm, _, rfl⟩
  · cases h
theorem eat_bool (us t : List U) (h : eatB us = some t) : ∃ u, us = u ++ t ∧ UOk .bool u := by
  unfold eatB at h; split at h
  · cases h; exact ⟨_, List.singleton_append.symm, _, rfl⟩
  · cases h
theorem eat_val (us t : List U) (h : eatV us = some t) : ∃ u, us = u ++ t ∧ UOk .val u := by
  unfold eatV at h; split at h
  · split at h
    · rename_i hv; cases h; exact ⟨_, List.singleton_append.symm, _, rfl, hv⟩
    · cases h
  · cases h
theorem eat_ptr (us t : List U) (h : eatP us = some t) : ∃ u, us = u ++ t ∧ UOk .ptr u := by
  unfold eatP at h; split at h
  · cases h; exact ⟨_, List.singleton_append.symm, _, rfl⟩
  · cases h
theorem eat_sl (us t : List U) (h : eatS us = some t) : ∃ u, us = u ++ t ∧ UOk .sl u := by
  unfold eatS at h; split at h
  · rename_i p a b t'; cases h; exact ⟨[.p p, .i a, .i b], rfl, _, _, _, rfl⟩
  · cases h
mutual
theorem eat_spec : ∀ (s : Sh) (us t : List U), s.eat us = some t → ∃ u, us = u ++ t ∧ UOk s u
  | .int k, us, t, h => eat_int k us t h
  | .bool, us, t, h => eat_bool us t h
  | .val, us, t, h => eat_val us t h
  | .ptr, us, t, h => eat_ptr us t h
  | .sl, us, t, h => eat_sl us t h
  | .agg l, us, t, h => by
    simp only [Sh.eat] at h; obtain ⟨u, h1, h2⟩ := eats_spec l us t h; exact ⟨u, h1, h2⟩
  | .tup l, us, t, h => by
    simp only [Sh.eat] at h; obtain ⟨u, h1, h2⟩ := eats_spec l us t h; exact ⟨u, h1, h2⟩
theorem eats_spec : ∀ (l : List Sh) (us t : List U), Sh.eats l us = some t → ∃ u, us = u ++ t ∧ UsOk l u
  | [], us, t, h => by simp [Sh.eats] at h; subst h; exact ⟨[], rfl, rfl⟩
  | s :: l, us, t, h => by
    simp only [Sh.eats, Option.bind_eq_some_iff] at h
    obtain ⟨r, h1, h2⟩ := h
    obtain ⟨u, rfl, hu⟩ := eat_spec s us r h1
    obtain ⟨u', rfl, hu'⟩ := eats_spec l r t h2
    exact ⟨u ++ u', by simp, u, u', rfl, hu, hu'⟩
end
theorem usOk_of {l : List Sh} {us : List U} (h : Sh.eats l us = some []) : UsOk l us := by
  obtain ⟨u, h1, h2⟩ := eats_spec l us [] h
  simp at h1; subst h1; exact h2
theorem uOk_of {s : Sh} {us : List U} (h : s.eat us = some []) : UOk s us := by
  obtain ⟨u, h1, h2⟩ := eat_spec s us [] h
  simp at h1; subst h1; exact h2

/-! ### Memory -/
abbrev Mem := Nat → Option Obj
structure Mv where
  c : Nat → Nat → Option Value
  m : Nat → Option (Array MapEntry)
instance : CoeFun Mv fun _ => Nat → Nat → Option Value := ⟨Mv.c⟩
def Mem.emp : Mem := fun _ => none
def Mem.upd (m : Mem) (b : Nat) (o : Obj) : Mem := fun k => if k = b then some o else m k
def Mem.join (m n : Mem) : Mem := fun k => match m k with | some o => some o | none => n k
def Mv.on (R : Mv) (m : Mem) : Mv where
  c b o := match m b with | some (.cells c _ _) => c[o]? | some _ => none | none => R b o
  m b := match m b with | some (.map es _) => some es | some _ => none | none => R.m b
theorem Mv.on_c (R : Mv) (m : Mem) (b o : Nat) : (R.on m).c b o = match m b with | some (.cells c _ _) => c[o]? | some _ => none | none => R b o := rfl
theorem Mv.on_m (R : Mv) (m : Mem) (b : Nat) : (R.on m).m b = match m b with | some (.map es _) => some es | some _ => none | none => R.m b := rfl
structure Mv.le (R S : Mv) : Prop where
  c : ∀ b o v, R b o = some v → S b o = some v
  m : ∀ b es, R.m b = some es → S.m b = some es
instance {R S : Mv} : CoeFun (R.le S) fun _ => ∀ b o v, R b o = some v → S b o = some v := ⟨Mv.le.c⟩
def Mv.of (w : World) : Mv where
  c b o := w.cell? ⟨b, o, none⟩
  m b := match w.heap[b]? with | some (.map es _) => some es | _ => none
theorem Mv.of_m {w : World} {b : Nat} {es : Array MapEntry} : (Mv.of w).m b = some es ↔ ∃ k, w.heap[b]? = some (.map es k) := by
  show (match w.heap[b]? with | some (.map es _) => some es | _ => none) = some es ↔ _
  constructor
  · intro h
    split at h
    · rename_i es' k hb; cases h; exact ⟨k, hb⟩
    · cases h
  · rintro ⟨k, h⟩; rw [h]
theorem Mv.of_lt {w : World} {b : Nat} {es : Array MapEntry} (h : (Mv.of w).m b = some es) : b < w.heap.size := by
  obtain ⟨k, h⟩ := Mv.of_m.1 h
  exact (Array.getElem?_eq_some_iff.1 h).1
theorem Mv.le.refl (R : Mv) : R.le R := ⟨fun _ _ _ h => h, fun _ _ h => h⟩
theorem Mv.le.trans {R S T : Mv} (h : R.le S) (k : S.le T) : R.le T := ⟨fun b o v hv => k.c b o v (h.c b o v hv), fun b es hv => k.m b es (h.m b es hv)⟩
theorem Mem.upd_same (m : Mem) (b : Nat) (o : Obj) : m.upd b o b = some o := if_pos rfl
theorem Mem.upd_other (m : Mem) {b k : Nat} (o : Obj) (h : k ≠ b) : m.upd b o k = m k := if_neg h
def HW.mem (m : Mem) : HW where
  H w := ∀ b o, m b = some o → w.heap[b]? = some o
  own b := m b ≠ none
  stab w w' := fun h _ hk _ _ _ b o hb => (hk b (by rw [hb]; simp)).trans (h b o hb)
  inb w b := fun h hb => by
    cases hm : m b with
    | none => exact absurd hm hb
    | some o => exact (Array.getElem?_eq_some_iff.1 (h b o hm)).1
def HW.bas (w0 : World) (X : Mem) : HW where
  H w := w0.heap.size ≤ w.heap.size ∧ (∀ k, k < w0.heap.size → X k = none → w.heap[k]? = w0.heap[k]?) ∧ w.tape = w0.tape ∧ w.os = w0.os ∧ w.output = w0.output
  own k := k < w0.heap.size ∧ X k = none
  stab wa wb := fun ⟨q1, q2, q3, q4, q5⟩ hs hk ht ho hu => ⟨Nat.le_trans q1 hs, fun k k1 k2 => (hk k ⟨k1, k2⟩).trans (q2 k k1 k2), ht.trans q3, ho.trans q4, hu.trans q5⟩
  inb _ _ := fun q hb => Nat.lt_of_lt_of_le hb.1 q.1
theorem HW.bas_self (w : World) (X : Mem) : (HW.bas w X).H w := ⟨Nat.le_refl _, fun _ _ _ => rfl, rfl, rfl, rfl⟩
structure Cx where
  hb : HW
  R : Mv
  ok : ∀ w b o v, hb.H w → R b o = some v → w.cell? ⟨b, o, none⟩ = some v
  own : ∀ b o v, R b o = some v → hb.own b
  okm : ∀ w b es, hb.H w → R.m b = some es → (Mv.of w).m b = some es
  ownm : ∀ b es, R.m b = some es → hb.own b
def Cx.hw (c : Cx) (m : Mem) : HW := c.hb.sep (HW.mem m)
def Cx.memOk (c : Cx) (m : Mem) : Prop := ∀ b, m b ≠ none → ¬ c.hb.own b
structure Good (c : Cx) (L : List Nat) (m : Mem) : Prop where
  mem : c.memOk m
  blk : ∀ b ∈ L, m b = none ∧ ¬ c.hb.own b
  nd : L.Nodup
def blkMem (L0 : List Nat) (ρ : Env) : List Nat → List Blk → Mem → Mem
  | b :: L, k :: ks, m => (blkMem L0 ρ L ks m).upd b (.cells (SV.dens L0 ρ k.cells).toArray k.elem (0, 0))
  | _, _, m => m
theorem blkMem_spec {L0 : List Nat} {ρ : Env} {m : Mem} : ∀ {L : List Nat} {ks : List Blk} {b : Nat} {o : Obj}, blkMem L0 ρ L ks m b = some o →
    (∃ (j : Nat) (k : Blk), L[j]? = some b ∧ ks[j]? = some k ∧ o = .cells (SV.dens L0 ρ k.cells).toArray k.elem (0, 0)) ∨ m b = some o
  | [], ks, b, o, h => by cases ks <;> exact .inr h
  | x :: L, [], b, o, h => .inr h
  | x :: L, k :: ks, b, o, h => by
    simp only [blkMem, Mem.upd] at h
    split at h
    · rename_i e; subst e; cases h; exact .inl ⟨0, k, rfl, rfl, rfl⟩
    · rcases blkMem_spec h with ⟨j, q, h1, h2, h3⟩ | h
      · exact .inl ⟨j + 1, q, h1, h2, h3⟩
      · exact .inr h
theorem blkMem_not {L0 : List Nat} {ρ : Env} {m : Mem} : ∀ {L : List Nat} {ks : List Blk} {b : Nat}, b ∉ L → blkMem L0 ρ L ks m b = m b
  | [], ks, b, _ => by cases ks <;> rfl
  | x :: L, [], b, _ => rfl
  | x :: L, k :: ks, b, h => by
    simp only [List.mem_cons, not_or] at h
    simp only [blkMem, Mem.upd_other _ _ h.1]
    exact blkMem_not h.2
def vw (c : Cx) (L : List Nat) (ρ : Env) (blks : List Blk) (m : Mem) : Mv := c.R.on (blkMem L ρ L blks m)
section
variable {P : Program} {c : Cx} {L : List Nat} {ρ : Env} {blks : List Blk} {m : Mem}
theorem Wd.obj {w : World} (hw : Wd L ρ blks (c.hw m) w) {b : Nat} {o : Obj} (h : blkMem L ρ L blks m b = some o) : w.heap[b]? = some o := by
  rcases blkMem_spec h with ⟨j, k, h1, h2, rfl⟩ | h
  · have := hw.blk j k h2
    simpa [List.getD, h1] using this
  · exact hw.hold.2 b o h
theorem vw_cell {w : World} (hw : Wd L ρ blks (c.hw m) w) : (vw c L ρ blks m).le (Mv.of w) := ⟨fun b o v h => by
  unfold vw at h
  rw [Mv.on_c] at h
  split at h
  · rename_i c' e fr hb
    have := hw.obj hb
    simp only [Mv.of, World.cell?, this]
    simpa using h
  · cases h
  · exact c.ok w b o v hw.hold.1 h, fun b es h => by
  unfold vw at h
  rw [Mv.on_m] at h
  split at h
  · rename_i es' k hb
    cases h
    exact Mv.of_m.2 ⟨k, hw.obj hb⟩
  · cases h
  · exact c.okm w b es hw.hold.1 h⟩
theorem Good.R (g : Good c L m) : c.R.le (vw c L ρ blks m) := ⟨fun b o v h => by
  unfold vw
  rw [Mv.on_c]
  have ho := c.own b o v h
  rw [blkMem_not fun hm => (g.blk b hm).2 ho]
  cases hm : m b with
  | none => exact h
  | some o => exact absurd ho (g.mem b (by rw [hm]; simp)), fun b es h => by
  unfold vw
  rw [Mv.on_m]
  have ho := c.ownm b es h
  rw [blkMem_not fun hm => (g.blk b hm).2 ho]
  cases hm : m b with
  | none => exact h
  | some o => exact absurd ho (g.mem b (by rw [hm]; simp))⟩
theorem blkMem_at {L0 : List Nat} {ρ : Env} {m : Mem} : ∀ {L : List Nat} {ks : List Blk} {j b : Nat} {k : Blk}, L.Nodup → L[j]? = some b → ks[j]? = some k → blkMem L0 ρ L ks m b = some (.cells (SV.dens L0 ρ k.cells).toArray k.elem (0, 0))
  | x :: L, y :: ks, 0, b, k, _, h1, h2 => by cases h1; cases h2; exact Mem.upd_same ..
  | x :: L, y :: ks, j + 1, b, k, hn, h1, h2 => by
    have hn' := List.nodup_cons.1 hn
    rw [blkMem, Mem.upd_other _ _ (fun (e : b = x) => hn'.1 (e ▸ List.mem_of_getElem? h1))]
    exact blkMem_at hn'.2 h1 h2
  | [], _, _, _, _, _, h1, _ => by simp at h1
  | _ :: _, [], _, _, _, _, _, h2 => by simp at h2
theorem Good.at (g : Good c L m) {j b : Nat} {k : Blk} (h1 : L[j]? = some b) (h2 : blks[j]? = some k) (o : Nat) : vw c L ρ blks m b o = (SV.dens L ρ k.cells)[o]? := by
  unfold vw
  rw [Mv.on_c, blkMem_at g.nd h1 h2]; simp
theorem Good.on (g : Good c L m) : (c.R.on m).le (vw c L ρ blks m) := ⟨fun b o v h => by
  cases hm : m b with
  | none => rw [Mv.on_c, hm] at h; exact g.R.c b o v h
  | some x =>
    unfold vw
    rw [Mv.on_c] at *
    rw [blkMem_not fun hb => by rw [(g.blk b hb).1] at hm; cases hm]
    exact h, fun b es h => by
  cases hm : m b with
  | none => rw [Mv.on_m, hm] at h; exact g.R.m b es h
  | some x =>
    unfold vw
    rw [Mv.on_m] at *
    rw [blkMem_not fun hb => by rw [(g.blk b hb).1] at hm; cases hm]
    exact h⟩
theorem vw_map (g : Good c L m) {b clock : Nat} {es : Array MapEntry} (h : m b = some (.map es clock)) : (vw c L ρ blks m).m b = some es := by
  unfold vw
  rw [Mv.on_m, blkMem_not (fun hb => by rw [(g.blk b hb).1] at h; cases h), h]
theorem hw_upd {b : Nat} {o : Obj} (hb : m b = none) : (c.hw m).add b o = c.hw (m.upd b o) := by
  refine HW.eq (funext fun w => propext ⟨fun ⟨⟨h1, h2⟩, h3⟩ => ⟨h1, fun k x hk => ?_⟩, fun ⟨h1, h2⟩ => ⟨⟨h1, fun k x hk => h2 k x ?_⟩, h2 b o (Mem.upd_same ..)⟩⟩) (funext fun k => propext ?_)
  · unfold Mem.upd at hk
    split at hk
    · rename_i e; cases hk; exact e ▸ h3
    · exact h2 k x hk
  · rw [Mem.upd_other _ _ (fun e => by rw [e, hb] at hk; cases hk)]; exact hk
  · simp only [Cx.hw, HW.sep, HW.add, HW.mem, Mem.upd]
    by_cases e : k = b
    · simp [e]
    · simp [e]

/-! ### The rules -/
def DenM (P : Program) (R : Value → HW → Prop) (Dn : Nat → List U → HW → Prop) (t : Tree) (L : List Nat) (ρ : Env) (c : Cx) (m : Mem) (A : List (List U → HW → Prop)) : Prop := Good c L m → den P R Dn t L ρ (c.hw m) A
def inM (c : Cx) (I : List U → Mem → Prop) : List U → HW → Prop := fun us h => ∃ m, c.memOk m ∧ h = c.hw m ∧ I us m
def outM (c : Cx) (Q : Value → Mem → Prop) : Value → HW → Prop := fun v h => ∃ m, c.memOk m ∧ h = c.hw m ∧ Q v m
section rules
variable {R : Value → HW → Prop} {Dn : Nat → List U → HW → Prop} {A : List (List U → HW → Prop)}
theorem DenM.ret {x : SV} {Q : Value → Mem → Prop} {v : Value} (hv : x.den L ρ = v) (hQ : Q v m) : DenM P (outM c Q) Dn (.ret x blks) L ρ c m A :=
  fun g => ⟨c.hw m, fun _ hw => hw.hold, fun _ h => .inl h, by rw [hv]; exact ⟨m, g.mem, rfl, hQ⟩⟩
theorem DenM.retL {x : SV} {Q : Value → Mem → Prop} {v : Value} (hv : x.den L ρ = v) (hQ : Good c L m → Q v (blkMem L ρ L blks m)) : DenM P (outM c Q) Dn (.ret x blks) L ρ c m A :=
  fun g => by
    have hmo : c.memOk (blkMem L ρ L blks m) := fun b hb => by
      by_cases hL : b ∈ L
      · exact (g.blk b hL).2
      · rw [blkMem_not hL] at hb; exact g.mem b hb
    refine ⟨c.hw (blkMem L ρ L blks m), fun w hw => ⟨hw.hold.1, fun b o hb => hw.obj hb⟩, fun b hb => ?_, by rw [hv]; exact ⟨_, hmo, rfl, hQ g⟩⟩
    · by_cases hL : b ∈ L
      · exact .inr hL
      · rcases hb with hb | hb
        · exact .inl (.inl hb)
        · exact .inl (.inr (by simpa only [HW.mem, blkMem_not hL] using hb))
theorem DenM.ite {cd : BT} {t e : Tree} (ht : cd.eval ρ = true → DenM P R Dn t L ρ c m A) (he : cd.eval ρ = false → DenM P R Dn e L ρ c m A) : DenM P R Dn (.ite cd t e) L ρ c m A := fun g => ⟨fun h => ht h g, fun h => he h g⟩
theorem DenM.yes {cd : BT} {t e : Tree} (hc : cd.eval ρ = true) (ht : DenM P R Dn t L ρ c m A) : DenM P R Dn (.ite cd t e) L ρ c m A := .ite (fun _ => ht) (fun h => by rw [hc] at h; cases h)
theorem DenM.no {cd : BT} {t e : Tree} (hc : cd.eval ρ = false) (he : DenM P R Dn e L ρ c m A) : DenM P R Dn (.ite cd t e) L ρ c m A := .ite (fun h => by rw [hc] at h; cases h) (fun _ => he)
theorem DenM.chk {cd : BT} {k : Tree} (hc : cd.eval ρ = true) (hk : DenM P R Dn k L ρ c m A) : DenM P R Dn (.chk cd k) L ρ c m A := fun g => ⟨hc, hk g⟩
theorem not_own {b : Nat} (h : ¬ (c.hw m).own b) : m b = none ∧ ¬ c.hb.own b := by
  refine ⟨?_, fun h1 => h (.inl h1)⟩
  cases hm : m b with
  | none => rfl
  | some o => exact absurd (Or.inr (by show m b ≠ none; rw [hm]; simp)) h
theorem nd_snoc {L : List Nat} {b : Nat} (h : L.Nodup) (hb : b ∉ L) : (L ++ [b]).Nodup := by
  rw [List.nodup_append]
  refine ⟨h, by simp, fun x hx y hy => ?_⟩
  simp at hy; subst hy; rintro rfl; exact hb hx
theorem DenM.alloc {k : Tree} (hk : ∀ b, DenM P R Dn k (L ++ [b]) ρ c m A) : DenM P R Dn (.alloc k) L ρ c m A := fun g b hb1 hb2 =>
  hk b ⟨g.mem, fun x hx => by
    rcases List.mem_append.1 hx with hx | hx
    · exact g.blk x hx
    · simp at hx; subst hx; exact not_own hb2, nd_snoc g.nd ‹_›⟩
theorem DenM.alloc' {k : Tree} (hk : ∀ b, b ∉ L → m b = none → ¬ c.hb.own b → DenM P R Dn k (L ++ [b]) ρ c m A) : DenM P R Dn (.alloc k) L ρ c m A := fun g b hb1 hb2 =>
  hk b hb1 (not_own hb2).1 (not_own hb2).2 ⟨g.mem, fun x hx => by
    rcases List.mem_append.1 hx with hx | hx
    · exact g.blk x hx
    · simp at hx; subst hx; exact not_own hb2, nd_snoc g.nd hb1⟩
theorem Good.upd {b : Nat} {o : Obj} (g : Good c L m) (h1 : b ∉ L) (h2 : ¬ c.hb.own b) : Good c L (m.upd b o) :=
  ⟨fun k hk => by
    by_cases e : k = b
    · exact e ▸ h2
    · rw [Mem.upd_other _ _ e] at hk; exact g.mem k hk, fun k hk => ⟨by rw [Mem.upd_other _ _ (fun (e : k = b) => h1 (e ▸ hk))]; exact (g.blk k hk).1, (g.blk k hk).2⟩, g.nd⟩
theorem DenM.makev {e : TypeId} {bytes : Nat} {l d : IT} {k : Tree} (n N : Nat) (hn : l.eval ρ = n) (hN : d.eval ρ = N) (h1 : n ≤ N) (h2 : bytes * N ≤ 281474976710656) (h3 : N ≤ 9223372036854775807)
    (hk : ∀ b, m b = none → b ∉ L → ¬ c.hb.own b → DenM P R Dn k L (ρ ++ [.p (some ⟨b, 0, none⟩), .i n, .i N]) c (m.upd b (.cells (bigCells P e (some N)).toArray e (0, 0))) A) : DenM P R Dn (.makev e bytes l d k) L ρ c m A := fun g => ⟨n, N, hn, hN, h1, h2, h3, fun b hb1 hb2 => by
  rw [hw_upd (not_own hb2).1]
  exact hk b (not_own hb2).1 hb1 (not_own hb2).2 (g.upd hb1 (not_own hb2).2)⟩
theorem DenM.allocc {t : TypeId} {cs : List SV} {k : Tree} (hk : ∀ b, m b = none → b ∉ L → ¬ c.hb.own b → DenM P R Dn k L (ρ ++ [.p (some ⟨b, 0, none⟩)]) c (m.upd b (.cells (SV.dens L ρ cs).toArray t (0, 0))) A) : DenM P R Dn (.allocc t cs k) L ρ c m A := fun g b hb1 hb2 => by
  rw [hw_upd (not_own hb2).1]
  exact hk b (not_own hb2).1 hb1 (not_own hb2).2 (g.upd hb1 (not_own hb2).2)
theorem DenM.load {i : Nat} {off : IT} {sh : List Sh} {k : Tree} (us : List U) (b o : Nat) (hus : UsOk sh us) (ha : atAddr ρ i (off.eval ρ) = some ⟨b, o, none⟩)
    (hc : Good c L m → ∀ (j : Nat) v, (SV.dens L (ρ ++ us) (Sh.freshs sh ρ.length).1)[j]? = some v → vw c L ρ blks m b (o + j) = some v) (hk : DenM P R Dn k L (ρ ++ us) c m A) : DenM P R Dn (.load i off sh blks k) L ρ c m A :=
  fun g => ⟨us, hus, fun _ hw => ⟨b, o, ha, fun j v hv => vw_cell hw b (o + j) v (hc g j v hv)⟩, hk g⟩
theorem DenM.store {p : Bool} {i : Nat} {off : IT} {cells : List SV} {k : Tree} (b o : Nat) (cur : Array Value) (e : TypeId) (hp : p = false) (ha : atAddr ρ i (off.eval ρ) = some ⟨b, o, none⟩) (hm : m b = some (.cells cur e (0, 0))) (hle : o + cells.length ≤ cur.size)
    (hk : DenM P R Dn k L ρ c (m.upd b (.cells (putAt cur.toList o (SV.dens L ρ cells)).toArray e (0, 0))) A) : DenM P R Dn (.store p i off cells blks k) L ρ c m A := fun g w hw => by
  have hbL : b ∉ L := fun h => by rw [(g.blk b h).1] at hm; cases hm
  have hbo : ¬ c.hb.own b := g.mem b (by rw [hm]; simp)
  refine ⟨b, o, cur, e, ha, hw.hold.2 b _ hm, hle, .inr (by show m b ≠ none; rw [hm]; simp), c.hw (m.upd b _), fun x hx => ?_, fun h => (by rw [hp] at h; cases h), ⟨?_, fun x o' hx => ?_⟩, hk (g.upd hbL hbo)⟩
  · rcases hx with hx | hx
    · exact .inl hx
    · by_cases e' : x = b
      · exact .inr (by show m x ≠ none; rw [e', hm]; simp)
      · exact .inr (by simpa only [HW.mem, Mem.upd_other _ _ e'] using hx)
  · exact c.hb.stab w _ hw.hold.1 (by simp) (fun x hx => setRow_other _ _ _ _ fun e' => hbo (e' ▸ hx)) rfl rfl rfl
  · unfold Mem.upd at hx
    split at hx
    · rename_i e'; cases hx; rw [e']; exact setRow_heap _ _ _ _ _ _ (hw.hold.2 b _ hm)
    · rename_i e'; rw [setRow_other _ _ _ _ e']; exact hw.hold.2 x o' hx

/-! ### Contracts -/
def FnM (P : Program) (f : FuncId) (args : List Value) (pre : Mv → Prop) (Q : Value → Mem → Mv → Prop) : Prop := ∀ (w : World) (R : Mv), R.le (Mv.of w) → pre R → Calls P f args.toArray w fun e w' => ∃ v, e = .returned v ∧ Below w.heap.size w w' ∧
  ∃ mq : Mem, (∀ b, mq b ≠ none → w.heap.size ≤ b) ∧ (HW.mem mq).H w' ∧ Q v mq (R.on mq)
abbrev Fn (P : Program) (f : FuncId) (args : List Value) (pre : Mv → Prop) (Q : Value → Mv → Prop) : Prop := FnM P f args pre fun v _ V => Q v V
abbrev Ret (P : Program) (f : FuncId) (args : List Value) (v : Value) : Prop := Fn P f args (fun _ => True) fun v' _ => v' = v
abbrev RetP (P : Program) (f : FuncId) (args : List Value) (pre : Mv → Prop) (v : Value) : Prop := Fn P f args pre fun v' _ => v' = v
theorem FnM.mono {f : FuncId} {args : List Value} {pre pre' : Mv → Prop} {Q Q' : Value → Mem → Mv → Prop} (h : FnM P f args pre Q) (hp : ∀ R, pre' R → pre R) (hQ : ∀ v q V, Q v q V → Q' v q V) : FnM P f args pre' Q' := fun w R hR hpre =>
  (h w R hR (hp R hpre)).mono fun _ _ ⟨v, he, hb, mq, h1, h2, h3⟩ => ⟨v, he, hb, mq, h1, h2, hQ _ _ _ h3⟩
def Cx.start (w : World) (R : Mv) (hR : R.le (Mv.of w)) : Cx where
  hb := HW.bas w Mem.emp
  R := R
  ok w' b o v := fun h hv => by
    have h0 := hR b o v hv
    have hlt := World.block_lt_of_cell? w ⟨b, o, none⟩ h0
    exact (World.cell?_of_block (w := w) (h.2.1 b hlt rfl)).trans h0
  own b o v := fun hv => ⟨World.block_lt_of_cell? w ⟨b, o, none⟩ (hR b o v hv), rfl⟩
  okm w' b es := fun h hv => by
    obtain ⟨k, h0⟩ := Mv.of_m.1 (hR.m b es hv)
    exact Mv.of_m.2 ⟨k, (h.2.1 b (Array.getElem?_eq_some_iff.1 h0).1 rfl).trans h0⟩
  ownm b es := fun hv => ⟨Mv.of_lt (hR.m b es hv), rfl⟩
theorem FnM.of {f : FuncId} {shs : List Sh} {t : Tree} (S : FnIs P f shs t) (hmix : P.follows .mixedOrders = true) (us : List U) (hus : Sh.eats shs us = some []) {args : List Value} (hargs : SV.dens [] us (Sh.freshs shs 0).1 = args) {pre : Mv → Prop} {Q : Value → Mem → Mv → Prop}
    (hd : ∀ c : Cx, pre c.R → DenM P (outM c fun v m => Q v m (c.R.on m)) (fun _ _ _ => False) t [] us c Mem.emp []) : FnM P f args pre Q := fun w R hR hp => by
  obtain ⟨fn, ann, fuel, hf, ht⟩ := S
  have g : Good (Cx.start w R hR) [] Mem.emp := ⟨fun b hb => absurd rfl hb, by simp, List.nodup_nil⟩
  have hH : ((Cx.start w R hR).hw Mem.emp).H w := ⟨HW.bas_self w _, fun b o hb => by cases hb⟩
  refine (fn_sound hf hmix ht (usOk_of hus) hargs hH (hd (Cx.start w R hR) hp g)).mono ?_
  rintro e w' ⟨v, rfl, h', hH', hg, m, hm, rfl, hQ⟩
  obtain ⟨q1, q2, q3, q4, q5⟩ := hH'.1
  refine ⟨v, rfl, ⟨q4, q3, q5, q1, fun k hk => q2 k hk rfl⟩, m, fun b hb => ?_, hH'.2, hQ⟩
  rcases Nat.lt_or_ge b w.heap.size with hlt | hge
  · exact absurd ⟨hlt, rfl⟩ (hm b hb)
  · exact hge
theorem Fn.of {f : FuncId} {shs : List Sh} {t : Tree} (S : FnIs P f shs t) (hmix : P.follows .mixedOrders = true) (us : List U) (hus : Sh.eats shs us = some []) {args : List Value} (hargs : SV.dens [] us (Sh.freshs shs 0).1 = args) {pre : Mv → Prop} {Q : Value → Mv → Prop}
    (hd : ∀ c : Cx, pre c.R → DenM P (outM c fun v m => Q v (c.R.on m)) (fun _ _ _ => False) t [] us c Mem.emp []) : Fn P f args pre Q := FnM.of (Q := fun v _ V => Q v V) S hmix us hus hargs hd
theorem Wd.below {h : HW} {w w' : World} (hw : Wd L ρ blks h w) (hb : Below w.heap.size w w') : Wd L ρ blks h w' :=
  (kw L ρ blks h).stab w w' hw hb.size (fun b hb' => hb.block b ((kw L ρ blks h).inb w b hw hb')) hb.tape hb.os hb.output
theorem DenM.callR {p : Bool} {f : FuncId} {args : List SV} {sh : Sh} {k : Tree} {as : List Value} {r : Value} {pre : Mv → Prop} (us : List U) (hc : RetP P f as pre r) (hargs : SV.dens L ρ args = as) (hus : sh.eat us = some []) (hr : (sh.fresh ρ.length).1.den L (ρ ++ us) = r)
    (hs : scBlks ρ.length blks = true) (hpre : Good c L m → pre (vw c L ρ blks m)) (hk : DenM P R Dn k L (ρ ++ us) c m A) : DenM P R Dn (.call p f args sh blks k) L ρ c m A := fun g w hw => by
  rw [hargs]
  refine (hc w _ (vw_cell hw) (hpre g)).mono ?_
  rintro e w' ⟨v, rfl, hb, _, _, _, rfl⟩
  have hw' := hw.below hb
  exact ⟨_, rfl, us, c.hw m, uOk_of hus, hr.symm, ⟨hb.size, fun k hk hn => ⟨hn, hb.block k hk⟩, hb.tape, hb.os, hb.output⟩, fun _ w hw => (Wd.letters hs).1 hw, (Wd.letters hs).2 hw', hk g⟩
theorem join_some {n : Mem} {b : Nat} (h : m.join n b ≠ none) : m b ≠ none ∨ (m b = none ∧ n b ≠ none) := by
  unfold Mem.join at h
  cases hm : m b with
  | none => rw [hm] at h; exact .inr ⟨rfl, h⟩
  | some o => exact .inl (by simp)
theorem DenM.callW {p : Bool} {f : FuncId} {args : List SV} {sh : Sh} {k : Tree} {as : List Value} {r : Value} {pre : Mv → Prop} (us : List U) (hc : RetP P f as pre r) (hargs : SV.dens L ρ args = as) (hus : sh.eat us = some []) (hr : (sh.fresh ρ.length).1.den L (ρ ++ us) = r)
    (hs : scBlks ρ.length blks = true) (hpre : ∀ w, Wd L ρ blks (c.hw m) w → pre (Mv.of w)) (hk : DenM P R Dn k L (ρ ++ us) c m A) : DenM P R Dn (.call p f args sh blks k) L ρ c m A := fun g w hw => by
  rw [hargs]
  refine (hc w _ (Mv.le.refl _) (hpre w hw)).mono ?_
  rintro e w' ⟨v, rfl, hb, _, _, _, rfl⟩
  have hw' := hw.below hb
  exact ⟨_, rfl, us, c.hw m, uOk_of hus, hr.symm, ⟨hb.size, fun k hk hn => ⟨hn, hb.block k hk⟩, hb.tape, hb.os, hb.output⟩, fun _ w hw => (Wd.letters hs).1 hw, (Wd.letters hs).2 hw', hk g⟩
theorem CallV.mono {f : Value} {args : Array Value} {w : World} {K K' : Value → World → Prop} (hK : ∀ v w, K v w → K' v w) (h : CallV P f args w K) : CallV P f args w K' := by
  rcases h with ⟨g, as, w1, h1, h2⟩ | ⟨l, g, t, as, bd, w1, h1, h2⟩
  · exact .inl ⟨g, as, w1, h1, h2.mono fun e w' ⟨v, he, hk⟩ => ⟨v, he, hK _ _ hk⟩⟩
  · exact .inr ⟨l, g, t, as, bd, w1, h1, h2.mono fun e w' ⟨v, he, hk⟩ => ⟨v, he, hK _ _ hk⟩⟩
theorem den_yield {f : SV} {args : List SV} {k : Tree} {yv : Value} {xs : List (List Value)} {J : Nat → HW → Prop} {E : HW → Prop} {hT : HW} {q : Nat} {x : List Value} (hy : YieldOk P yv xs J E) (hf : f.den L ρ = yv) (hargs : SV.dens L ρ args = x) (hx : xs[q]? = some x) (hJ : J q hT)
    (hd : Disj hT (HW.mem m)) (hs : scBlks ρ.length blks = true) (ht : ∀ hT', J (q + 1) hT' → Disj hT' (HW.mem m) → den P R Dn k L (ρ ++ [.b true]) (hT'.sep (HW.mem m)) A)
    (he : ∀ hT', E hT' → Disj hT' (HW.mem m) → den P R Dn k L (ρ ++ [.b false]) (hT'.sep (HW.mem m)) A) : den P R Dn (.callv false f args .bool blks k) L ρ (hT.sep (HW.mem m)) A := fun w hw => by
  rw [hf, hargs]
  refine CallV.mono ?_ (hy q x hT w hx hJ hw.hold.1)
  rintro v w' ⟨hT', hH, hg, hor⟩
  have hmem := hg.keeps hw.hold.2 hd.symm
  have hkeep : ∀ b ∈ L, w'.heap[b]? = w.heap[b]? ∧ ¬ hT'.own b := fun b hb => by
    have := hg.same b (hw.lt b hb) (fun ho => hw.good b hb (.inl ho))
    exact ⟨this.2, this.1⟩
  have hwd : Wd L ρ blks (hT'.sep (HW.mem m)) w' := ⟨hw.len, fun j k hj => ((hkeep _ (getD_mem (by rw [hw.len]; exact (List.getElem?_eq_some_iff.1 hj).1))).1).trans (hw.blk j k hj), hw.nd, fun b hb ho => by
    rcases ho with ho | ho
    · exact (hkeep b hb).2 ho
    · exact hw.good b hb (.inr ho), hH, hmem.1⟩
  have hgr : ∀ us, Grow (kw L ρ blks (hT.sep (HW.mem m))) w (kw L (ρ ++ us) blks (hT'.sep (HW.mem m))) w' := fun us => ⟨hg.size, fun i hi hn => by
    have h1 := hg.same i hi (fun ho => hn (.inl (.inl ho)))
    refine ⟨fun ho => ?_, h1.2⟩
    rcases ho with (ho | ho) | ho
    · exact h1.1 ho
    · exact hn (.inl (.inr ho))
    · exact hn (.inr ho), hg.tape, hg.os, hg.output⟩
  rcases hor with ⟨rfl, hJ'⟩ | ⟨rfl, hE⟩
  · refine ⟨[.b true], _, ⟨true, rfl⟩, ?_, hgr _, fun h => (by cases h), (Wd.letters hs).2 hwd, ht hT' hJ' hmem.2.symm⟩
    simp only [Sh.fresh, SV.den, BT.eval]; rw [bool_at]
  · refine ⟨[.b false], _, ⟨false, rfl⟩, ?_, hgr _, fun h => (by cases h), (Wd.letters hs).2 hwd, he hT' hE hmem.2.symm⟩
    simp only [Sh.fresh, SV.den, BT.eval]; rw [bool_at]
def Cx.around (hT : HW) : Cx where
  hb := hT
  R := ⟨fun _ _ => none, fun _ => none⟩
  ok _ _ _ _ _ := fun h => by cases h
  own _ _ _ := fun h => by cases h
  okm _ _ _ _ := fun h => by cases h
  ownm _ _ := fun h => by cases h
theorem DenM.callM {p : Bool} {f : FuncId} {args : List SV} {sh : Sh} {k : Tree} {as : List Value} {pre : Mv → Prop} {Q : Value → Mem → Mv → Prop} (hc : FnM P f as pre Q) (hargs : SV.dens L ρ args = as) (hs : scBlks ρ.length blks = true) (hpre : Good c L m → pre (vw c L ρ blks m))
    (hk : ∀ v mq, (∀ b, mq b ≠ none → m b = none ∧ b ∉ L ∧ ¬ c.hb.own b) → Q v mq ((vw c L ρ blks m).on mq) → ∃ us, UOk sh us ∧ v = (sh.fresh ρ.length).1.den L (ρ ++ us) ∧ DenM P R Dn k L (ρ ++ us) c (m.join mq) A) : DenM P R Dn (.call p f args sh blks k) L ρ c m A := fun g w hw => by
  rw [hargs]
  refine (hc w _ (vw_cell hw) (hpre g)).mono ?_
  rintro e w' ⟨v, rfl, hb, mq, hfr, hmq, hQ⟩
  have hfresh : ∀ b, mq b ≠ none → m b = none ∧ b ∉ L ∧ ¬ c.hb.own b := fun b hb' => by
    have hge := hfr b hb'
    refine ⟨?_, fun hm => by have := hw.lt b hm; omega, fun ho => by have := c.hb.inb w b hw.hold.1 ho; omega⟩
    cases hm : m b with
    | none => rfl
    | some o => have := (HW.mem m).inb w b hw.hold.2 (by show m b ≠ none; rw [hm]; simp); omega
  obtain ⟨us, hus, hv, hd⟩ := hk v mq hfresh hQ
  have hw0 := hw.below hb
  have hgood : Good c L (m.join mq) := ⟨fun b hb' => (join_some hb').elim (g.mem b) fun h => (hfresh b h.2).2.2, fun b hb' => ⟨by
    cases hq : mq b with
    | none => unfold Mem.join; rw [(g.blk b hb').1]; exact hq
    | some o => exact absurd hb' (hfresh b (by rw [hq]; simp)).2.1, (g.blk b hb').2⟩, g.nd⟩
  have hw' : Wd L ρ blks (c.hw (m.join mq)) w' := ⟨hw0.len, hw0.blk, hw0.nd, fun b hb' ho => by
    rcases ho with ho | ho
    · exact (g.blk b hb').2 ho
    · exact ho (hgood.blk b hb').1, hw0.hold.1, fun b o hbo => by
      unfold Mem.join at hbo
      cases hm : m b with
      | some x => rw [hm] at hbo; cases hbo; exact hw0.hold.2 b _ hm
      | none => rw [hm] at hbo; exact hmq b o hbo⟩
  refine ⟨_, rfl, us, c.hw (m.join mq), hus, hv, ⟨hb.size, fun k hk hn => ⟨fun ho => ?_, hb.block k hk⟩, hb.tape, hb.os, hb.output⟩, fun _ w2 hw2 => ?_, (Wd.letters hs).2 hw', hd hgood⟩
  · rcases ho with (ho | ho) | ho
    · exact hn (.inl (.inl ho))
    · rcases join_some ho with ho | ho
      · exact hn (.inl (.inr ho))
      · have := hfr k ho.2; omega
    · exact hn (.inr ho)
  · have h2 := (Wd.letters hs).1 hw2
    exact ⟨h2.len, h2.blk, h2.nd, fun b hb' ho => by
      rcases ho with ho | ho
      · exact (g.blk b hb').2 ho
      · exact ho (g.blk b hb').1, h2.hold.1, fun b o hbo => h2.hold.2 b o (by unfold Mem.join; rw [hbo])⟩
def lU : Value → List U
  | .int _ n => [.i n]
  | .bool b => [.b b]
  | .pointer (some a) => [.p (some a)]
  | .pointer none => [.p none]
  | .slice (some a) l c => [.p (some a), .i l, .i c]
  | .slice none l c => [.p none, .i l, .i c]
  | .agg vs => vs.toList.flatMap fun
    | .int _ n => [.i n]
    | .bool b => [.b b]
    | .pointer (some a) => [.p (some a)]
    | .pointer none => [.p none]
    | .slice (some a) l c => [.p (some a), .i l, .i c]
    | .slice none l c => [.p none, .i l, .i c]
    | v => [.v v]
  | v => [.v v]
def lO : Value → List U
  | .tuple vs => vs.toList.flatMap lU
  | v => lU v
theorem DenM.callV {p : Bool} {f : FuncId} {args : List SV} {sh : Sh} {k : Tree} {as : List Value} {r : Value} {pre : Mv → Prop} (hc : RetP P f as pre r) (hpre : Good c L m → pre (vw c L ρ blks m)) (hk : DenM P R Dn k L (ρ ++ lO r) c m A)
    (hargs : SV.dens L ρ args = as := by rfl) (hus : sh.eat (lO r) = some [] := by rfl) (hr : (sh.fresh ρ.length).1.den L (ρ ++ lO r) = r := by rfl)
    (hs : scBlks ρ.length blks = true := by rfl) : DenM P R Dn (.call p f args sh blks k) L ρ c m A := DenM.callR (lO r) hc hargs hus hr hs hpre hk
theorem DenM.join {lvl : Nat} {shs : List Sh} {head : List Blk} {t k : Tree} (I : List U → Mem → Prop) (ht : DenM P R Dn t L ρ c m (A.take lvl ++ [inM c I])) (hk : ∀ us m', UsOk shs us → I us m' → DenM P R Dn k L (ρ ++ us) c m' A) :
    DenM P R Dn (.join lvl shs head t k) L ρ c m A := fun g => by
  refine ⟨inM c I, ht g, ?_⟩
  rintro us _ hus ⟨m', hm', rfl, hI⟩ ⟨w, hw⟩
  exact hk us m' hus hI ⟨hm', fun b hb' => not_own (hw.good b hb'), hw.nd⟩
theorem DenM.loop {lvl : Nat} {shs : List Sh} {vals : List SV} {head : List Blk} {body : Tree} (I : Nat → List U → Mem → Prop) (n0 : Nat) (h0 : I n0 (Sh.uss L ρ shs vals) m)
    (hb : ∀ n us m', UsOk shs us → I n us m' → DenM P R Dn body L (ρ ++ us) c m' (A.take lvl ++ [inM c fun us' m'' => ∃ n', n' < n ∧ I n' us' m''])) : DenM P R Dn (.loop lvl shs vals blks head body) L ρ c m A := fun g => by
  refine ⟨fun n => inM c (I n), n0, ⟨m, g.mem, rfl, h0⟩, ?_⟩
  rintro n us _ hus ⟨m', hm', rfl, hI⟩ ⟨w, hw⟩
  have := hb n us m' hus hI ⟨hm', fun b hb' => not_own (hw.good b hb'), hw.nd⟩
  have he : (fun us' h' => ∃ m', m' < n ∧ inM c (I m') us' h') = inM c fun us' m'' => ∃ n', n' < n ∧ I n' us' m'' := by
    funext us' h'
    apply propext
    constructor
    · rintro ⟨n', hn', m2, q1, q2, q3⟩; exact ⟨m2, q1, q2, n', hn', q3⟩
    · rintro ⟨m2, q1, q2, n', hn', q3⟩; exact ⟨n', hn', m2, q1, q2, q3⟩
  rw [he]
  exact this
theorem DenM.again {lvl nb : Nat} {shs : List Sh} {vals : List SV} {I : List U → Mem → Prop} (hA : A[lvl]? = some (inM c I)) (hI : I (Sh.uss L ρ shs vals) m) : DenM P R Dn (.again lvl nb shs vals blks) L ρ c m A :=
  fun g => ⟨c.hw m, fun _ hw => hw.hold, fun _ h => .inl h, _, hA, m, g.mem, rfl, hI⟩
theorem DenM.leave {n nb : Nat} {shs : List Sh} {vals : List SV} {I : Nat → List U → Mem → Prop} (hI : I n (Sh.uss L ρ shs vals) m) : DenM P R (fun n => inM c (I n)) (.leave n nb shs vals blks) L ρ c m A :=
  fun g => ⟨c.hw m, fun _ hw => hw.hold, fun _ h => .inl h, m, g.mem, rfl, hI⟩
theorem DenM.range {f : SV} {psh shs : List Sh} {vals : List SV} {head : List Blk} {body rest : Tree} (gf : FuncId) (lb : Array Value) (xs : List (List U)) (pre : World → Prop) (mf m0 : Mem) (I E : Nat → List U → Mem → Prop)
    (hfv : f.den L ρ = .func (.func gf) #[] lb) (hgf : goodFn P gf = true) (hm : m = m0.join mf) (hd : ∀ b, m0 b ≠ none → mf b = none) (hxs : ∀ ux ∈ xs, Sh.eats psh ux = some [])
    (hiter : Iter P gf lb pre (HW.mem mf) (xs.map fun ux => SV.dens [] ux (Sh.freshs psh 0).1)) (h0 : I 0 (Sh.uss L ρ shs vals) m0) (hpre : ∀ k us m' w, I k us m' → Wd L (ρ ++ us) head (c.hw m') w → pre w)
    (hbody : ∀ k us ux m', UsOk shs us → xs[k]? = some ux → I k us m' → DenM P (fun _ _ => False) (fun n => inM c fun us' m'' => (n = 0 ∧ I (k + 1) us' m'') ∨ (n ≠ 0 ∧ E n us' m'')) body L (ρ ++ us ++ ux) c m' [])
    (hend : ∀ us m', UsOk shs us → I xs.length us m' → DenM P R Dn rest L (ρ ++ us ++ [.i 0]) c m' A)
    (hleft : ∀ n us m', n ≠ 0 → UsOk shs us → E n us m' → DenM P R Dn rest L (ρ ++ us ++ [.i (n : Nat)]) c m' A) : DenM P R Dn (.range f psh shs vals blks head body rest) L ρ c m A := fun g => by
  have hmf : ∀ b, mf b ≠ none → m b ≠ none := fun b hb => by
    rw [hm]; unfold Mem.join
    cases h : m0 b with
    | none => exact hb
    | some o => simp
  have hm0 : ∀ b, m0 b ≠ none → m b ≠ none := fun b hb => by
    rw [hm]; unfold Mem.join
    cases h : m0 b with
    | none => exact absurd h hb
    | some o => simp
  have good : ∀ us m', c.memOk m' → (∃ w, Wd L (ρ ++ us) head (c.hw m') w) → Good c L m' := fun us m' h1 ⟨w, hw⟩ => ⟨h1, fun b hb => not_own (hw.good b hb), g.nd⟩
  refine ⟨gf, lb, xs.length, fun k ux hx => xs[k]? = some ux ∧ hx = .nil, pre, HW.mem mf, c.hw m0, fun k => inM c (I k), fun k => inM c (E k), hfv, fun args w => run_callFunc hgf args w, fun w hw => ⟨⟨hw.hold.1, fun b o hb => ?_⟩, fun b o hb => ?_⟩, fun b hb => ?_, fun b hb => .inr (hmf b hb), fun b h1 h2 => ?_, fun k ux hx h => usOk_of (hxs ux (List.mem_of_getElem? h.1)), ?_, ⟨m0, fun b hb => g.mem b (hm0 b hb), rfl, h0⟩, ?_, ?_, ?_, ?_⟩
  · exact hw.hold.2 b o (by rw [hm]; unfold Mem.join; rw [hb])
  · refine hw.hold.2 b o ?_
    rw [hm]; unfold Mem.join
    cases h : m0 b with
    | none => exact hb
    | some x => have := hd b (by rw [h]; simp); rw [hb] at this; cases this
  · rcases hb with hb | hb
    · exact .inl hb
    · exact .inr (hm0 b hb)
  · rcases h1 with h1 | h1
    · exact g.mem b (hmf b h2) h1
    · exact h2 (hd b h1)
  · have := hiter.toX (X := fun k x hx => ∃ ux, (xs[k]? = some ux ∧ hx = HW.nil) ∧ x = SV.dens [] ux (Sh.freshs psh 0).1) fun k x hx => by
      rw [List.getElem?_map, Option.map_eq_some_iff] at hx
      obtain ⟨ux, h1, h2⟩ := hx
      exact ⟨ux, ⟨h1, rfl⟩, h2.symm⟩
    rwa [List.length_map] at this
  · rintro k us _ w ⟨m', _, rfl, hI⟩ hw
    exact hpre k us m' w hI hw
  · rintro k us ux _ hx hus ⟨hxk, rfl⟩ ⟨m', hm', rfl, hI⟩ hdj hw
    rw [HW.sep_nil] at hw ⊢
    have he : (fun (n : Nat) us' (h' : HW) => (∀ w, h'.H w → HW.nil.H w) ∧ ((n = 0 ∧ inM c (I (k + 1)) us' h') ∨ (n ≠ 0 ∧ inM c (E n) us' h'))) = fun n => inM c fun us' m'' => (n = 0 ∧ I (k + 1) us' m'') ∨ (n ≠ 0 ∧ E n us' m'') := by
      funext n us' h'
      apply propext
      constructor
      · rintro ⟨_, ⟨q, m2, q1, q2, q3⟩ | ⟨q, m2, q1, q2, q3⟩⟩
        · exact ⟨m2, q1, q2, .inl ⟨q, q3⟩⟩
        · exact ⟨m2, q1, q2, .inr ⟨q, q3⟩⟩
      · rintro ⟨m2, q1, q2, ⟨q, q3⟩ | ⟨q, q3⟩⟩
        · exact ⟨fun _ _ => trivial, .inl ⟨q, m2, q1, q2, q3⟩⟩
        · exact ⟨fun _ _ => trivial, .inr ⟨q, m2, q1, q2, q3⟩⟩
    rw [he]
    exact hbody k us ux m' hus hxk hI (good us m' hm' hw)
  · rintro us _ hus ⟨m', hm', rfl, hI⟩ hw
    exact hend us m' hus hI (good us m' hm' hw)
  · rintro n us _ hn hus ⟨m', hm', rfl, hE⟩ hw
    exact hleft n us m' hn hus hE (good us m' hm' hw)
theorem DenM.extp {x : XOp} {sh : Sh} {k : Tree} (us : List U) (hus : UOk sh us) (hr : Good c L m → ∀ w, Wd L ρ blks (c.hw m) w → (XOp.sem x.op x.type (SV.dens L ρ x.args)).run P w = .ok (.value ((sh.fresh ρ.length).1.den L (ρ ++ us))) w) (hk : DenM P R Dn k L (ρ ++ us) c m A) :
    DenM P R Dn (.extp x sh blks k) L ρ c m A := fun g => ⟨us, hus, hr g, hk g⟩
end rules
end
theorem DenM.env {P : Program} {R : Value → HW → Prop} {Dn : Nat → List U → HW → Prop} {t : Tree} {L : List Nat} {ρ ρ' : Env} {c : Cx} {m : Mem} {A : List (List U → HW → Prop)} (h : ρ = ρ') (hk : DenM P R Dn t L ρ' c m A) : DenM P R Dn t L ρ c m A := h ▸ hk
end Go.Sy
