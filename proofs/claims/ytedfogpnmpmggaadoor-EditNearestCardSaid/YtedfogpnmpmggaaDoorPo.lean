/- Slices that the code owns: rows in memory; append. -/
import Derived.Test.YtedfogpnmpmggaaDoorPc
import Derived.Maps.AppendAt
import Derived.ArgAppend
import Derived.Laws.OwnMore
set_option linter.unusedSimpArgs false
set_option linter.unusedVariables false
namespace Go.Sy
open Go Go.RowKit
section
variable {P : Program} {c : Cx} {L : List Nat} {ρ : Env} {blks : List Blk} {m : Mem} {R : Value → HW → Prop} {Dn : Nat → List U → HW → Prop} {A : List (List U → HW → Prop)}
/-- An operation that changes one block of the memory at most, and makes new ones. -/
theorem DenM.extM {p : Bool} {x : XOp} {sh : Sh} {k : Tree} (hs : scBlks ρ.length blks = true) (h : Good c L m → ∀ w, Wd L ρ blks (c.hw m) w → ∃ v w' g0 m' us, (XOp.sem x.op x.type (SV.dens L ρ x.args)).run P w = .ok (.value v) w' ∧ w.grownBy w' g0 ∧ (∀ g, g0 = some g → m g ≠ none) ∧
      (∀ b, b < w.heap.size → some b ≠ g0 → m' b = m b) ∧ (HW.mem m').H w' ∧ (p = true → g0 = none) ∧ UOk sh us ∧ v = (sh.fresh ρ.length).1.den L (ρ ++ us) ∧ DenM P R Dn k L (ρ ++ us) c m' A) : DenM P R Dn (.ext p x sh blks k) L ρ c m A := fun g w hw => by
  obtain ⟨v, w', g0, m', us, hrun, hgr, hg0, hm', hH, hp, hus, hv, hk⟩ := h g w hw
  have hgood : Good c L m' := ⟨fun b hb' ho => by
      have hlt := c.hb.inb w b hw.hold.1 ho
      by_cases e : some b = g0
      · exact g.mem b (hg0 b e.symm) ho
      · rw [hm' b hlt e] at hb'; exact g.mem b hb' ho, fun b hb' => ⟨by
      have e : some b ≠ g0 := fun e => hg0 b e.symm (g.blk b hb').1
      rw [hm' b (hw.lt b hb') e]; exact (g.blk b hb').1, (g.blk b hb').2⟩, g.nd⟩
  have hblk : ∀ b, b < w.heap.size → m b = none → w'.heap[b]? = w.heap[b]? ∧ m' b = none := fun b hb hn => by
    have e : some b ≠ g0 := fun e => hg0 b e.symm hn
    exact ⟨hgr.block b hb e, (hm' b hb e).trans hn⟩
  have hwd : Wd L ρ blks (c.hw m') w' := ⟨hw.len, fun j k hj => (hblk _ (hw.lt _ (getD_mem (by rw [hw.len]; exact (List.getElem?_eq_some_iff.1 hj).1))) (g.blk _ (getD_mem (by rw [hw.len]; exact (List.getElem?_eq_some_iff.1 hj).1))).1).1.trans (hw.blk j k hj), hw.nd, fun b hb ho => by
    rcases ho with ho | ho
    · exact (g.blk b hb).2 ho
    · exact ho (hgood.blk b hb).1, c.hb.stab w w' hw.hold.1 hgr.size (fun b hb => (hblk b (c.hb.inb w b hw.hold.1 hb) (by
      cases hm : m b with
      | none => rfl
      | some o => exact absurd hb (g.mem b (by rw [hm]; simp)))).1) hgr.tape hgr.os hgr.output, hH⟩
  refine ⟨v, w', hrun, us, c.hw m', hus, hv, ⟨hgr.size, fun k hk hn => ?_, hgr.tape, hgr.os, hgr.output⟩, fun hpt w2 hw2 => ?_, (Wd.letters hs).2 hwd, hk hgood⟩
  · have hn' : m k = none := by
      cases hm : m k with
      | none => rfl
      | some o => exact absurd (Or.inl (.inr (by show m k ≠ none; rw [hm]; simp))) hn
    have h2 := hblk k hk hn'
    refine ⟨fun ho => ?_, h2.1⟩
    rcases ho with (ho | ho) | ho
    · exact hn (.inl (.inl ho))
    · exact ho h2.2
    · exact hn (.inr ho)
  · have h2 := (Wd.letters hs).1 hw2
    have hg := hp hpt
    exact ⟨h2.len, h2.blk, h2.nd, fun b hb' ho => by
      rcases ho with ho | ho
      · exact (g.blk b hb').2 ho
      · exact ho (g.blk b hb').1, h2.hold.1, fun b o hbo => h2.hold.2 b o (by
      have hlt : b < w.heap.size := (HW.mem m).inb w b hw.hold.2 (by show m b ≠ none; rw [hbo]; simp)
      rw [hm' b hlt (by rw [hg]; simp)]; exact hbo)⟩
/-- What is known of a slice's type and its elements'. -/
structure El (P : Program) (t e : TypeId) (size bytes : Nat) : Prop where
  und : P.underlying t = some (.slice e)
  info : ∃ i z, P.info? e = some i ∧ i.zero = some z ∧ i.size = size ∧ i.bytes = bytes ∧ z.cells.size = size
  pos : 0 < size
def elB (P : Program) (t e : TypeId) (size bytes : Nat) : Bool := (match P.underlying t with | some (.slice e') => e' == e | _ => false) && (match P.info? e with | some i => (match i.zero with | some z => i.size == size && i.bytes == bytes && z.cells.size == size | none => false) | none => false) && decide (0 < size)
theorem El.of {P : Program} {t e : TypeId} {size bytes : Nat} (h : elB P t e size bytes = true) : El P t e size bytes := by
  unfold elB at h
  rw [Bool.and_eq_true, Bool.and_eq_true, decide_eq_true_eq] at h
  obtain ⟨⟨h1, h2⟩, h3⟩ := h
  refine ⟨?_, ?_, h3⟩
  · split at h1
    · rename_i e' hu
      rw [hu, beq_iff_eq.1 h1]
    · cases h1
  · split at h2
    · rename_i i hi
      split at h2
      · rename_i z hz
        simp only [Bool.and_eq_true, beq_iff_eq] at h2
        exact ⟨i, z, hi, hz, h2.1.1, h2.1.2, h2.2⟩
      · cases h2
    · cases h2
/-- What memory reads as, beside the state's blocks. -/
theorem vw_mem {c : Cx} {L : List Nat} {ρ : Env} {blks : List Blk} {m : Mem} (g : Good c L m) {b : Nat} {cur : Array Value} {e : TypeId} {fr : Nat × Nat} (h : m b = some (.cells cur e fr)) (o : Nat) : vw c L ρ blks m b o = cur[o]? := by
  have hb : b ∉ L := fun hb => by rw [(g.blk b hb).1] at h; cases h
  show (match blkMem L ρ L blks m b with | some (.cells c _ _) => c[o]? | some _ => none | none => c.R b o) = _
  rw [blkMem_not hb, h]
/-- A slice that the code owns: none yet, or the head of a block of its own. -/
def Row (m : Mem) (e : TypeId) (size : Nat) (q : Option Addr) (cap n : Nat) (xs : List Value) : Prop :=
  xs.length = n * size ∧ ((q = none ∧ n = 0 ∧ cap = 0) ∨ ∃ g cur, q = some ⟨g, 0, none⟩ ∧ m g = some (.cells cur e (0, 0)) ∧ n ≤ cap ∧ cap ≤ maxLen ∧ cur.size = cap * size ∧ cur.toList.take (n * size) = xs)
theorem Row.nil (m : Mem) (e : TypeId) (size : Nat) : Row m e size none 0 0 [] := ⟨by simp, .inl ⟨rfl, rfl, rfl⟩⟩
theorem Row.keep {m m' : Mem} {e : TypeId} {size : Nat} {q : Option Addr} {cap n : Nat} {xs : List Value} (h : Row m e size q cap n xs) (hk : ∀ g, q = some ⟨g, 0, none⟩ → m g ≠ none → m' g = m g) : Row m' e size q cap n xs := by
  obtain ⟨h1, h2⟩ := h
  refine ⟨h1, ?_⟩
  rcases h2 with h2 | ⟨g, cur, rfl, hg, rest⟩
  · exact .inl h2
  · exact .inr ⟨g, cur, rfl, (hk g rfl (by rw [hg]; simp)).trans hg, rest⟩
theorem Row.owns {m : Mem} {e : TypeId} {size : Nat} {q : Option Addr} {cap n : Nat} {xs : List Value} {w : World} (h : Row m e size q cap n xs) (hw : (HW.mem m).H w) : w.ownsRow 0 e size (slv q n cap) n xs := by
  refine ⟨h.1, ?_⟩
  rcases h.2 with ⟨rfl, rfl, rfl⟩ | ⟨g, cur, rfl, hg, h1, h2, h3, h4⟩
  · exact .inl ⟨rfl, rfl⟩
  · exact .inr ⟨g, cap, cur, rfl, Nat.zero_le _, hw g _ hg, h1, h2, h3, h4⟩
/-- What a row reads as. -/
theorem Row.cells {m : Mem} {e : TypeId} {size : Nat} {q : Option Addr} {cap n : Nat} {xs : List Value} (h : Row m e size q cap n xs) {V : Mv} (hV : ∀ g cur, m g = some (.cells cur e (0, 0)) → ∀ o, V g o = cur[o]?) : Cells V q xs := by
  intro i x hx
  rcases h.2 with ⟨rfl, rfl, rfl⟩ | ⟨g, cur, rfl, hg, h1, h2, h3, h4⟩
  · have := h.1
    have : i < xs.length := (List.getElem?_eq_some_iff.1 hx).1
    omega
  · refine ⟨g, 0, rfl, ?_⟩
    rw [hV g cur hg, Nat.zero_add]
    rw [← h4, List.getElem?_take] at hx
    split at hx
    · rw [← Array.getElem?_toList]; exact hx
    · cases hx
theorem slv_fresh (ρ : Env) (L : List Nat) (q : Option Addr) (n cap : Nat) : (Sh.sl.fresh ρ.length).1.den L (ρ ++ [.p q, .i n, .i cap]) = slv q n cap := by
  simp only [Sh.fresh, SV.den, IT.eval, atAddr, env_ptr_at, env_int_at1, env_int_at2, slv]
  cases q <;> simp [addr_zero]
theorem DenM.append {as : Array Operand} {t ty e : TypeId} {size bytes : Nat} {sv xv : SV} {k : Tree} {q qx : Option Addr} {cap n kx capx : Nat} {xs news : List Value} (hE : El P t e size bytes) (hR : Row m e size q cap n xs)
    (hx : Good c L m → Cells (vw c L ρ blks m) qx news) (hl : news.length = kx * size) (h1 : ∀ u ∈ news, u.oneCell' = true) (hn : qx = none → capx = 0) (h63 : n + kx ≤ maxLen) (hbytes : (n + kx) * bytes ≤ 140737488355328)
    (hk : ∀ q' cap' m', Row m' e size q' cap' (n + kx) (xs ++ news) → (∀ b, ((∃ o, q = some ⟨b, o, none⟩) → cap < n + kx) → m b ≠ none → m' b = m b) → (q' = q ∨ ∃ g, q' = some ⟨g, 0, none⟩ ∧ m g = none) → DenM P R Dn k L (ρ ++ [.p q', .i (n + kx : Nat), .i (cap' : Nat)]) c m' A)
    (hv : sv.den L ρ = slv q n cap := by rfl) (hxv : xv.den L ρ = slv qx kx capx := by rfl) (hs : scBlks ρ.length blks = true := by rfl) :
    DenM P R Dn (.ext false ⟨.call ⟨.builtin .append, as, #[t, t]⟩, ty, [sv, xv]⟩ .sl blks k) L ρ c m A := .extM hs fun g w hw => by
  obtain ⟨i, z, hi, hz, hsz, hby, hzs⟩ := hE.info
  have hown := hR.owns hw.hold.2
  have key : ∃ v' w' g0, (Builtin.append_ #[t, t] ty #[slv q n cap, slv qx kx capx]).run P w = .ok v' w' ∧ w'.ownsRow 0 e size v' (n + kx) (xs ++ news) ∧ w.grownBy w' g0 ∧ (g0 = none ∨ g0 = (slv q n cap).ownBlock ∧ n + kx ≤ cap) ∧
      (∀ g', v'.ownBlock = some g' → (slv q n cap).ownBlock = some g' ∨ w.heap.size ≤ g') ∧ (v' = .slice none 0 0 → q = none) := by
    rcases qx with _ | xa
    · have hnil : news = [] := by
        cases news with
        | nil => rfl
        | cons a l => obtain ⟨_, _, hc, _⟩ := hx g 0 a rfl; cases hc
      have hk0 : kx = 0 := by
        rw [hnil] at hl
        have := hE.pos
        rcases Nat.mul_eq_zero.1 hl.symm with h | h
        · exact h
        · omega
      rw [hn rfl, hk0, hnil]
      exact ⟨slv q n cap, w, none, run_append_owned_none w 0 t ty e i size hE.und hi (slv q n cap) n xs hown, by simpa using hown, ⟨rfl, rfl, rfl, Nat.le_refl _, fun _ _ _ => rfl⟩, .inl rfl, fun g' h => .inl h, fun h => by cases q with | none => rfl | some a => cases h⟩
    · have hnews : ∀ j u, news[j]? = some u → w.cell? (xa.add j) = some u := fun j u hu => by
        obtain ⟨b, o, hc, hr⟩ := hx g j u hu
        cases hc
        have := vw_cell hw _ _ _ hr
        unfold Mv.of at this
        rw [addr_add]; exact this
      have own : n + kx ≤ cap ∨ q = none → ∃ v' w' g0, (Builtin.append_ #[t, t] ty #[slv q n cap, slv (some xa) kx capx]).run P w = .ok v' w' ∧ w'.ownsRow 0 e size v' (n + kx) (xs ++ news) ∧ w.grownBy w' g0 ∧ (g0 = none ∨ g0 = (slv q n cap).ownBlock ∧ n + kx ≤ cap) ∧
      (∀ g', v'.ownBlock = some g' → (slv q n cap).ownBlock = some g' ∨ w.heap.size ≤ g') ∧ (v' = .slice none 0 0 → q = none) := fun hroom => by
        obtain ⟨v', w', hr, ho, hg, hnil, hb⟩ := run_append_own_at w 0 t ty e i z size bytes hE.und hi hz hsz hby hzs hE.pos (slv q n cap) n xs hown xa kx capx news hl hnews h1 h63 hbytes (Nat.zero_le _)
        refine ⟨v', w', (slv q n cap).ownBlock, hr, ho, hg, ?_, fun g' h => ?_, fun h => by have := (hnil.1 h).1; cases q with | none => rfl | some a => cases this⟩
        · rcases hroom with h | h
          · exact .inr ⟨rfl, h⟩
          · left; rw [h]; rfl
        · rcases hb with hb | hb
          · left; rw [← hb, h]
          · right; rw [hb] at h; cases h; exact Nat.le_refl _
      rcases Nat.lt_or_ge cap (n + kx) with hlt | hge
      · rcases hR.2 with ⟨hq, _, _⟩ | ⟨g2, cur2, hq, hg2, _⟩
        · exact own (.inr hq)
        · have holds := fun j u => hown.cells (g := g2) (by rw [hq]; rfl) j u
          rw [hq]
          obtain ⟨v', w', hr, ho, hg⟩ := run_append_arg_grows w t ty e i z size bytes hE.und hi hz hsz hby hzs hE.pos ⟨g2, 0, none⟩ n cap xs hR.1 holds xa kx capx news hl hnews hlt h63 hbytes
          refine ⟨v', w', none, hr, ⟨ho.1, ?_⟩, hg, .inl rfl, fun g' h => .inr ?_, fun h => ?_⟩
          · rcases ho.2 with h | ⟨a, b, d, h1, _, h3⟩
            · exact .inl h
            · exact .inr ⟨a, b, d, h1, Nat.zero_le _, h3⟩
          · rcases ho.2 with ⟨h', _⟩ | ⟨a, b, d, h', h2, _⟩
            · rw [h'] at h; cases h
            · rw [h'] at h; cases h; exact h2
          · rcases ho.2 with ⟨_, h'⟩ | ⟨a, b, d, h', _⟩
            · omega
            · rw [h'] at h; cases h
      · exact own (.inl hge)
  obtain ⟨v', w', g0, hr, ho, hgr, hg0, hb, hnil⟩ := key
  have hmb : ∀ b, (slv q n cap).ownBlock = some b → m b ≠ none ∧ q = some ⟨b, 0, none⟩ := by
    intro b hb'
    rcases hR.2 with ⟨rfl, _, _⟩ | ⟨g', cur, rfl, hg, _⟩
    · cases hb'
    · cases hb'; exact ⟨by show m g' ≠ none; rw [hg]; simp, rfl⟩
  have hmg : ∀ b, g0 = some b → m b ≠ none ∧ q = some ⟨b, 0, none⟩ ∧ n + kx ≤ cap := by
    intro b hb'
    rcases hg0 with h | ⟨h, h'⟩
    · rw [h] at hb'; cases hb'
    · rw [h] at hb'; exact ⟨(hmb b hb').1, (hmb b hb').2, h'⟩
  have hinb : ∀ b, m b ≠ none → b < w.heap.size := fun b hb' => (HW.mem m).inb w b hw.hold.2 hb'
  have hrun : (XOp.sem (.call ⟨.builtin .append, as, #[t, t]⟩) ty (SV.dens L ρ [sv, xv])).run P w = .ok (.value v') w' := by
    show (builtin .append #[t, t] ty (as.map fun | .const _ => true | _ => false) #[sv.den L ρ, xv.den L ρ]).run P w = _
    rw [hv, hxv]
    show (do pure (Next.value (← Builtin.append_ #[t, t] ty #[slv q n cap, slv qx kx capx])) : Sem Next).run P w = _
    rw [Sem.run_bind, hr]; rfl
  rcases ho.2 with ⟨hv0, hn0⟩ | ⟨g', cap', cur, rfl, _, hg', h5, h6, h7, h8⟩
  · refine ⟨v', w', g0, fun b => if some b = g0 then none else m b, [.p none, .i (n + kx : Nat), .i (0 : Nat)], hrun, hgr, fun b h => (hmg b h).1, fun b _ hne => if_neg hne, fun b o hbo => ?_, fun h => (by cases h), ⟨_, _, _, rfl⟩, ?_, hk none 0 _ ⟨ho.1, .inl ⟨rfl, hn0, rfl⟩⟩ (fun b hb' _ => if_neg fun e' => ?_) ?_⟩
    · dsimp only at hbo
      split at hbo
      · cases hbo
      · rename_i hne
        rw [hgr.block b (hinb b (by rw [hbo]; simp)) hne]; exact hw.hold.2 b o hbo
    · rw [slv_fresh, hv0, hn0]; rfl
    · have h3 := hmg b e'.symm
      have := hb' ⟨0, h3.2.1⟩
      omega
    · exact .inl (hnil hv0).symm
  · have hgq : q = some ⟨g', 0, none⟩ ∨ m g' = none := by
      rcases hb g' rfl with h | h
      · exact .inl (hmb g' h).2
      · right
        cases hm : m g' with
        | none => rfl
        | some o => have := hinb g' (by rw [hm]; simp); omega
    have hsame : ∀ b, b < w.heap.size → some b ≠ g0 → (if b = g' then some (.cells cur e (0, 0)) else if some b = g0 then none else m b : Option Obj) = m b := fun b hlt hne => by
      by_cases e' : b = g'
      · rw [if_pos e']
        subst e'
        rcases hb b rfl with h | h
        · cases hm : m b with
          | none => exact absurd hm (hmb b h).1
          | some o =>
            have h1 := hw.hold.2 b o hm
            rw [← hgr.block b hlt hne, hg'] at h1
            exact h1
        · omega
      · rw [if_neg e', if_neg hne]
    refine ⟨_, w', g0, fun b => if b = g' then some (.cells cur e (0, 0)) else if some b = g0 then none else m b, [.p (some ⟨g', 0, none⟩), .i (n + kx : Nat), .i (cap' : Nat)], hrun, hgr, fun b h => (hmg b h).1, hsame, fun b o hbo => ?_, fun h => (by cases h), ⟨_, _, _, rfl⟩, (slv_fresh ρ L (some ⟨g', 0, none⟩) (n + kx) cap').symm, hk (some ⟨g', 0, none⟩) cap' _ ⟨ho.1, .inr ⟨g', cur, rfl, if_pos rfl, h5, h6, h7, h8⟩⟩ (fun b hbq hmne => hsame b (hinb b hmne) fun e' => ?_) ?_⟩
    · replace hbo : (if b = g' then some (.cells cur e (0, 0)) else if some b = g0 then none else m b : Option Obj) = some o := hbo
      by_cases e' : b = g'
      · rw [if_pos e'] at hbo; cases hbo; rw [e']; exact hg'
      · rw [if_neg e'] at hbo
        split at hbo
        · cases hbo
        · rename_i hne
          rw [hgr.block b (hinb b (by rw [hbo]; simp)) hne]; exact hw.hold.2 b o hbo
    · have h3 := hmg b e'.symm
      have := hbq ⟨0, h3.2.1⟩
      omega
    · rcases hgq with h | h
      · exact .inl h.symm
      · exact .inr ⟨g', rfl, h⟩
/-- append to an empty literal: a copy. -/
theorem DenM.appendLit {p : Bool} {as : Array Operand} {t ty e : TypeId} {size bytes : Nat} {sv xv : SV} {k : Tree} {b0 : Nat} {qx : Option Addr} {kx capx : Nat} {news : List Value} (hE : El P t e size bytes)
    (hx : Good c L m → Cells (vw c L ρ blks m) qx news) (hl : news.length = kx * size) (h1 : ∀ u ∈ news, u.oneCell' = true) (hn : qx = none → capx = 0) (h63 : kx ≤ maxLen) (hbytes : kx * bytes ≤ 140737488355328)
    (hk : ∀ q' cap' m', (kx ≠ 0 → Row m' e size q' cap' kx news) → (kx = 0 → q' = some ⟨b0, 0, none⟩ ∧ cap' = 0) → (∀ b, m b ≠ none → m' b = m b) → DenM P R Dn k L (ρ ++ [.p q', .i (kx : Nat), .i (cap' : Nat)]) c m' A)
    (hv : sv.den L ρ = slv (some ⟨b0, 0, none⟩) 0 0 := by rfl) (hxv : xv.den L ρ = slv qx kx capx := by rfl) (hs : scBlks ρ.length blks = true := by rfl) :
    DenM P R Dn (.ext p ⟨.call ⟨.builtin .append, as, #[t, t]⟩, ty, [sv, xv]⟩ .sl blks k) L ρ c m A := .extM hs fun g w hw => by
  obtain ⟨i, z, hi, hz, hsz, hby, hzs⟩ := hE.info
  have hinb : ∀ b, m b ≠ none → b < w.heap.size := fun b hb' => (HW.mem m).inb w b hw.hold.2 hb'
  have hrun : ∀ v' w', (Builtin.append_ #[t, t] ty #[slv (some ⟨b0, 0, none⟩) 0 0, slv qx kx capx]).run P w = .ok v' w' → (XOp.sem (.call ⟨.builtin .append, as, #[t, t]⟩) ty (SV.dens L ρ [sv, xv])).run P w = .ok (.value v') w' := fun v' w' hr => by
    show (builtin .append #[t, t] ty (as.map fun | .const _ => true | _ => false) #[sv.den L ρ, xv.den L ρ]).run P w = _
    rw [hv, hxv]
    show (do pure (Next.value (← Builtin.append_ #[t, t] ty #[slv (some ⟨b0, 0, none⟩) 0 0, slv qx kx capx])) : Sem Next).run P w = _
    rw [Sem.run_bind, hr]; rfl
  by_cases hk0 : kx = 0
  · subst hk0
    have hr : (Builtin.append_ #[t, t] ty #[slv (some ⟨b0, 0, none⟩) 0 0, slv qx 0 capx]).run P w = .ok (slv (some ⟨b0, 0, none⟩) 0 0) w := by
      rcases qx with _ | xa
      · rw [hn rfl]
        simp [slv, Builtin.append_, run_underlying hE.und, sizeOf, typeInfo, hi, Builtin.lenOf, Builtin.firstCells, storeCells]
      · have := run_append_room_cells w t ty e i hE.und hi b0 0 0 0 xa 0 capx [] (by simp) (by simp) (by simp) (Nat.le_refl _) (by simp) (by simp)
        exact this.trans rfl
    exact ⟨_, w, none, m, [.p (some ⟨b0, 0, none⟩), .i (0 : Nat), .i (0 : Nat)], hrun _ _ hr, ⟨rfl, rfl, rfl, Nat.le_refl _, fun _ _ _ => rfl⟩, fun _ h => (by cases h), fun _ _ _ => rfl, hw.hold.2, fun _ => rfl, ⟨_, _, _, rfl⟩, (slv_fresh ρ L _ _ _).symm,
      hk (some ⟨b0, 0, none⟩) 0 m (fun h => absurd rfl h) (fun _ => ⟨rfl, rfl⟩) fun _ _ => rfl⟩
  · have hpos := hE.pos
    rcases qx with _ | xa
    · exfalso
      cases news with
      | nil => rcases Nat.mul_eq_zero.1 hl.symm with h | h <;> omega
      | cons a l => obtain ⟨_, _, hc, _⟩ := hx g 0 a rfl; cases hc
    · have hnews : ∀ j u, news[j]? = some u → w.cell? (xa.add j) = some u := fun j u hu => by
        obtain ⟨b, o, hc, hr⟩ := hx g j u hu
        cases hc
        have := vw_cell hw _ _ _ hr
        unfold Mv.of at this
        rw [addr_add]; exact this
      obtain ⟨v', w', hr, ho, hgr⟩ := run_append_arg_grows w t ty e i z size bytes hE.und hi hz hsz hby hzs hE.pos ⟨b0, 0, none⟩ 0 0 [] (by simp) (by simp) xa kx capx news hl hnews (by omega) (by omega) (by simpa using hbytes)
      rcases ho.2 with ⟨_, h'⟩ | ⟨g', cap', cur, rfl, hge, hg', h5, h6, h7, h8⟩
      · omega
      · simp only [Nat.zero_add, List.nil_append] at *
        have hne : ∀ b, b < w.heap.size → b ≠ g' := fun b hb => by omega
        refine ⟨_, w', none, m.upd g' (.cells cur e (0, 0)), [.p (some ⟨g', 0, none⟩), .i (kx : Nat), .i (cap' : Nat)], hrun _ _ hr, hgr, fun _ h => (by cases h), fun b hb _ => Mem.upd_other _ _ (hne b hb), fun b o hbo => ?_, fun _ => rfl, ⟨_, _, _, rfl⟩, (slv_fresh ρ L (some ⟨g', 0, none⟩) kx cap').symm,
          hk (some ⟨g', 0, none⟩) cap' _ (fun _ => ⟨hl, .inr ⟨g', cur, rfl, Mem.upd_same _ _ _, h5, h6, h7, h8⟩⟩) (fun h => absurd h hk0) fun b hb => Mem.upd_other _ _ (hne b (hinb b hb))⟩
        by_cases e' : b = g'
        · rw [e', Mem.upd_same] at hbo; cases hbo; rw [e']; exact hg'
        · rw [Mem.upd_other _ _ e'] at hbo
          rw [hgr.block b (hinb b (by rw [hbo]; simp)) (by simp)]; exact hw.hold.2 b o hbo
theorem Row.reads {e : TypeId} {size : Nat} {q : Option Addr} {cap n : Nat} {xs : List Value} (h : Row m e size q cap n xs) (g : Good c L m) : Cells (vw c L ρ blks m) q xs :=
  h.cells fun _ _ hg o => vw_mem g hg o
end
end Go.Sy
