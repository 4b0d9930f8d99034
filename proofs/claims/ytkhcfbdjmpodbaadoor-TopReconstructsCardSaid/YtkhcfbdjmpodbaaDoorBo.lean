/- Chapter 18: what the insertion of a word makes; plain law. -/
import Derived.Test.YtkhcfbdjmpodbaaDoorBz
import Derived.Test.YtkhcfbdjmpodbaaDoorTn
import Derived.Laws.Entries
set_option linter.unusedSimpArgs false
set_option linter.unusedVariables false
/- Chapter 18: what the insertion of a word makes; plain law. -/
namespace Go.Sy
open Go Go.RowKit
def openI (m n i j w : Nat) : Prop := (w = 1 ∨ w = 2 ∨ w = 3) ∧ (afterS i j w).1 ≤ m ∧ (afterS i j w).2 ≤ n
theorem LI_le {c : Nat → Nat → Nat → Int} {m n : Nat} (hB : ∀ w i j, openI m n i j w → c w i j ≤ 2199023255552) : ∀ r s, r ≤ m → s ≤ n → LI c m n r s ≤ ((r + s : Nat) : Int) * 2199023255552 := by
  intro r
  induction r with
  | zero =>
    intro s hr hs
    show li0 c m n s ≤ _
    induction s with
    | zero => exact Int.le_refl _
    | succ s ih =>
      have h1 := ih (by omega)
      have h2 := hB 3 m (n - (s + 1)) ⟨.inr (.inr rfl), by show m ≤ m; omega, by show n - (s + 1) + 1 ≤ n; omega⟩
      unfold li0; omega
  | succ r ih =>
    intro s hr hs
    show liR c m n r (LI c m n r) s ≤ _
    cases s with
    | zero =>
      have h1 := ih 0 (by omega) (by omega)
      have h2 := hB 2 (m - (r + 1)) n ⟨.inr (.inl rfl), by show m - (r + 1) + 1 ≤ m; omega, by show n ≤ n; omega⟩
      unfold liR; omega
    | succ s =>
      have h1 := ih (s + 1) (by omega) (by omega)
      have h2 := hB 2 (m - (r + 1)) (n - (s + 1)) ⟨.inr (.inl rfl), by show m - (r + 1) + 1 ≤ m; omega, by show n - (s + 1) ≤ n; omega⟩
      unfold liR; omega
theorem AI_le {c : Nat → Nat → Nat → Int} {m n : Nat} (hB : ∀ w i j, openI m n i j w → c w i j ≤ 2199023255552) (i j : Nat) : AI c m n i j ≤ ((m + n : Nat) : Int) * 2199023255552 := by
  have := LI_le hB (m - i) (n - j) (by omega) (by omega)
  unfold AI; omega
theorem AI_nonneg {c : Nat → Nat → Nat → Int} (hc : ∀ w i j, 0 ≤ c w i j) (m n i j : Nat) : 0 ≤ AI c m n i j := LI_nonneg hc m n _ _
theorem stepB_or (b : Int) (o : Option Int) : stepB b o = b ∨ o = some (stepB b o) := by
  cases o with
  | none => exact .inl rfl
  | some s => show (if b < 0 ∨ s < b then s else b) = b ∨ some s = some (if b < 0 ∨ s < b then s else b); split <;> simp
theorem way_cand {c : Nat → Nat → Nat → Int} (hc : ∀ w i j, 0 ≤ c w i j) {m n i j : Nat} (hi : i ≤ m) (hj : j ≤ n) (hne : ¬ (i = m ∧ j = n)) : candI c m n i j (wayI c m n i j) = some (AI c m n i j) := by
  have hb := best_is hc hi hj
  rw [if_neg hne] at hb
  have hA := AI_nonneg hc m n i j
  unfold wayI
  split
  · assumption
  · rename_i h1
    split
    · assumption
    · rename_i h2
      rcases stepB_or (stepB (stepB (-1) (candI c m n i j 1)) (candI c m n i j 2)) (candI c m n i j 3) with e | e
      · rw [e] at hb
        rcases stepB_or (stepB (-1) (candI c m n i j 1)) (candI c m n i j 2) with e2 | e2
        · rw [e2] at hb
          rcases stepB_or (-1) (candI c m n i j 1) with e3 | e3
          · rw [e3] at hb; omega
          · rw [hb] at e3; exact absurd e3 h1
        · rw [hb] at e2; exact absurd e2 h2
      · rw [hb] at e; exact e
theorem way_three (c : Nat → Nat → Nat → Int) (m n i j : Nat) : wayI c m n i j = 1 ∨ wayI c m n i j = 2 ∨ wayI c m n i j = 3 := by
  unfold wayI; split
  · exact .inl rfl
  · split
    · exact .inr (.inl rfl)
    · exact .inr (.inr rfl)
theorem cand_open {c : Nat → Nat → Nat → Int} {m n i j w : Nat} {s : Int} (h : candI c m n i j w = some s) : (afterS i j w).1 ≤ m ∧ (afterS i j w).2 ≤ n := by
  unfold candI at h
  split at h
  · assumption
  · cases h
theorem way_open {c : Nat → Nat → Nat → Int} (hc : ∀ w i j, 0 ≤ c w i j) {m n i j : Nat} (hi : i ≤ m) (hj : j ≤ n) (hne : ¬ (i = m ∧ j = n)) : openI m n i j (wayI c m n i j) :=
  ⟨way_three .., cand_open (way_cand hc hi hj hne)⟩
theorem after_grows {i j w : Nat} : i + j < (afterS i j w).1 + (afterS i j w).2 ∧ i ≤ (afterS i j w).1 ∧ j ≤ (afterS i j w).2 ∧ (afterS i j w).1 ≤ i + 1 ∧ (afterS i j w).2 ≤ j + 1 := by
  unfold afterS
  split
  · exact ⟨by dsimp only; omega, by dsimp only; omega, by dsimp only; omega, by dsimp only; omega, by dsimp only; omega⟩
  · split
    · exact ⟨by dsimp only; omega, by dsimp only; omega, by dsimp only; omega, by dsimp only; omega, by dsimp only; omega⟩
    · exact ⟨by dsimp only; omega, by dsimp only; omega, by dsimp only; omega, by dsimp only; omega, by dsimp only; omega⟩
theorem outI_len (c : Nat → Nat → Nat → Int) (m n : Nat) (col : Nat → Nat → Nat → List Int) : ∀ k i j, (outI c m n col k i j).length ≤ k
  | 0, _, _ => Nat.le_refl _
  | k + 1, i, j => by
    unfold outI
    split
    · exact Nat.zero_le _
    · have := outI_len c m n col k (afterS i j (wayI c m n i j)).1 (afterS i j (wayI c m n i j)).2
      simp only [List.length_cons]; omega
theorem outI_end (c : Nat → Nat → Nat → Int) (m n : Nat) (col : Nat → Nat → Nat → List Int) (k : Nat) : outI c m n col k m n = [] := by
  cases k with
  | zero => rfl
  | succ k => unfold outI; rw [if_pos ⟨rfl, rfl⟩]
theorem outI_go (c : Nat → Nat → Nat → Int) (m n : Nat) (col : Nat → Nat → Nat → List Int) {i j : Nat} (hne : ¬ (i = m ∧ j = n)) (k : Nat) : outI c m n col (k + 1) i j = col (wayI c m n i j) i j :: outI c m n col k (afterS i j (wayI c m n i j)).1 (afterS i j (wayI c m n i j)).2 := by
  conv => lhs; unfold outI
  rw [if_neg hne]
theorem outI_mem {c : Nat → Nat → Nat → Int} (hc : ∀ w i j, 0 ≤ c w i j) {m n : Nat} {col : Nat → Nat → Nat → List Int} {p : List Int → Prop} (hp : ∀ w i j, openI m n i j w → p (col w i j)) : ∀ k i j, i ≤ m → j ≤ n → ∀ x ∈ outI c m n col k i j, p x
  | 0, _, _, _, _, x, hx => by cases hx
  | k + 1, i, j, hi, hj, x, hx => by
    unfold outI at hx
    split at hx
    · cases hx
    · rename_i hne
      have ho := way_open hc hi hj hne
      rcases List.mem_cons.1 hx with rfl | hx
      · exact hp _ _ _ ho
      · exact outI_mem hc hp k _ _ ho.2.1 ho.2.2 x hx
def cI (cost : List Int → Int) (cols : List (List Int)) (n place : Nat) (w i j : Nat) : Int := cost (lookS cols n place i j w)
def insE (cost : List Int → Int) (cols : List (List Int)) (n place wn : Nat) : List (List Int) :=
  outI (cI cost cols n place) cols.length wn (fun w i j => lookS cols n place i j w) (cols.length + wn) 0 0
theorem insE_len (cost : List Int → Int) (cols : List (List Int)) (n place wn : Nat) : (insE cost cols n place wn).length ≤ cols.length + wn := outI_len ..
theorem lookS_len' {cols : List (List Int)} {n place i : Nat} {j : Int} {w : Nat} (hpl : place ≤ n) (hl : ∀ x ∈ cols, x.length = n) (hi : w = 1 ∨ w = 2 → i < cols.length) : (lookS cols n place i j w).length = n + 1 := by
  have hx : ∀ h : i < cols.length, (cols.getD i []).length = n := fun h => by rw [getD_at _ _ _ h]; exact hl _ (List.getElem_mem h)
  unfold lookS newS
  split
  · rename_i e
    have h := hi (.inl (by omega))
    rw [insS_len _ _ _ (by rw [hx h]; exact hpl), hx h]
  · split
    · rename_i e
      have h := hi (.inr (by omega))
      rw [insS_len _ _ _ (by rw [hx h]; exact hpl), hx h]
    · rw [List.length_set, List.length_replicate]
theorem open_lt {m n i j w : Nat} (h : openI m n i j w) : (w = 1 ∨ w = 2 → i < m) ∧ (w = 1 ∨ w = 3 → j < n) := by
  obtain ⟨hw, h1, h2⟩ := h
  rcases hw with rfl | rfl | rfl
  · exact ⟨fun _ => h1, fun _ => h2⟩
  · exact ⟨fun _ => h1, fun h => by omega⟩
  · exact ⟨fun h => by omega, fun _ => h2⟩
end Go.Sy
/- Chapter 18: words aligned one after the other; plain law. -/
namespace Go.Sy
open Go Go.RowKit
theorem insS_len' (l : List Int) (k : Nat) (x : Int) : (insS l k x).length = l.length + 1 := by
  unfold insS; simp only [List.length_append, List.length_take, List.length_drop, List.length_cons, List.length_nil]; omega
theorem lookS_le {cols : List (List Int)} {n : Nat} (hl : ∀ x ∈ cols, x.length = n) (place i : Nat) (j : Int) (w : Nat) : (lookS cols n place i j w).length ≤ n + 1 := by
  have hx : (cols.getD i []).length ≤ n := by
    rcases Nat.lt_or_ge i cols.length with h | h
    · rw [getD_at _ _ _ h, hl _ (List.getElem_mem h)]; exact Nat.le_refl _
    · rw [List.getD_eq_getElem?_getD, List.getElem?_eq_none h]; exact Nat.zero_le _
  unfold lookS newS
  split
  · rw [insS_len']; omega
  · split
    · rw [insS_len']; omega
    · rw [List.length_set, List.length_replicate]; exact Nat.le_refl _
theorem cI_nonneg {ws : List Int} {gap : Int} (hc : checkC ws gap = 0) (W : List (List Snd)) {cols : List (List Int)} {n : Nat} (hn : n + 1 ≤ 8) (hl : ∀ x ∈ cols, x.length = n) (place w i j : Nat) : 0 ≤ cI (columnE ws gap W) cols n place w i j :=
  (columnE_bound hc W _ (Nat.le_trans (lookS_le hl _ _ _ _) hn)).1
theorem insS_at (l : List Int) {p : Nat} (x : Int) (hp : p ≤ l.length) (i : Nat) : labAt (insS l p x) i = if i < p then labAt l i else if i = p then x else labAt l (i - 1) := by
  have hlt : (l.take p).length = p := by rw [List.length_take]; omega
  unfold insS labAt
  by_cases h1 : i < p
  · rw [if_pos h1, List.append_assoc, List.getElem?_append_left (by omega), List.getElem?_take, if_pos h1]
  · rw [if_neg h1, List.append_assoc, List.getElem?_append_right (by omega), hlt]
    by_cases h2 : i = p
    · rw [if_pos h2, h2, Nat.sub_self]; rfl
    · obtain ⟨d, hd⟩ : ∃ d, i = p + 1 + d := ⟨i - p - 1, by omega⟩
      subst hd
      rw [if_neg h2, show p + 1 + d - p = d + 1 by omega, show p + 1 + d - 1 = p + d by omega]
      show (List.drop p l)[d]?.getD 0 = _
      rw [List.getElem?_drop]
def EntAt (W : List (List Snd)) (p : Nat) (l : List Int) : Prop := ∀ i, i < l.length → labAt l i = -1 ∨ (0 ≤ labAt l i ∧ labAt l i < wl W (if i < p then i else i + 1))
theorem EntAt.ins {W : List (List Snd)} {p : Nat} {l : List Int} (h : EntAt W p l) (hp : p ≤ l.length) {x : Int} (hx : x = -1 ∨ (0 ≤ x ∧ x < wl W p)) : EntOk W (insS l p x) := fun i hi => by
  rw [insS_len'] at hi
  rw [insS_at l x hp]
  by_cases h1 : i < p
  · rw [if_pos h1]; have := h i (by omega); rw [if_pos h1] at this; exact this
  · rw [if_neg h1]
    by_cases h2 : i = p
    · rw [if_pos h2, h2]; exact hx
    · rw [if_neg h2]
      have := h (i - 1) (by omega)
      rw [if_neg (by omega), show i - 1 + 1 = i by omega] at this
      exact this
theorem EntAt.gaps (W : List (List Snd)) (p n : Nat) : EntAt W p (List.replicate n (-1)) := fun i hi => .inl (by
  rw [List.length_replicate] at hi
  unfold labAt
  rw [List.getElem?_replicate, if_pos hi]; rfl)
theorem EntAt.of {W : List (List Snd)} {l : List Int} (h : EntOk W l) : EntAt W l.length l := fun i hi => by rw [if_pos hi]; exact h i hi
theorem lookS_ent {W : List (List Snd)} {cols : List (List Int)} {n place wn : Nat} (hpl : place ≤ n) (hl : ∀ x ∈ cols, x.length = n ∧ EntAt W place x) (hw : wl W place = (wn : Int)) {w i j : Nat} (h : openI cols.length wn i j w) : EntOk W (lookS cols n place i j w) := by
  obtain ⟨h1, h2⟩ := open_lt h
  have hx : ∀ h : i < cols.length, (cols.getD i []).length = n ∧ EntAt W place (cols.getD i []) := fun h => by rw [getD_at _ _ _ h]; exact hl _ (List.getElem_mem h)
  unfold lookS
  split
  · rename_i e
    have hi := hx (h1 (.inl (by omega)))
    have hj := h2 (.inl (by omega))
    exact hi.2.ins (by omega) (.inr ⟨by omega, by omega⟩)
  · split
    · rename_i e
      have hi := hx (h1 (.inr (by omega)))
      exact hi.2.ins (by omega) (.inl rfl)
    · have hj := h2 (.inr (by have := h.1; omega))
      rw [← Go.Proofs.YtkhcfbdjmpodbaaDoor.newS_ins _ _ _ hpl]
      exact (EntAt.gaps W place n).ins (by rw [List.length_replicate]; exact hpl) (.inr ⟨by omega, by omega⟩)
theorem insE_ent {W : List (List Snd)} {cost : List Int → Int} {cols : List (List Int)} {n place wn : Nat} (hc : ∀ w i j, 0 ≤ cI cost cols n place w i j) (hpl : place ≤ n) (hl : ∀ x ∈ cols, x.length = n ∧ EntAt W place x) (hw : wl W place = (wn : Int)) : ∀ x ∈ insE cost cols n place wn, x.length = n + 1 ∧ EntOk W x :=
  outI_mem hc (p := fun x => x.length = n + 1 ∧ EntOk W x) (fun w i j h => ⟨lookS_len' hpl (fun x hx => (hl x hx).1) (open_lt h).1, lookS_ent hpl hl hw h⟩) _ _ _ (Nat.zero_le _) (Nat.zero_le _)
def progE (ws : List Int) (gap : Int) (W : List (List Snd)) : Nat → List (List Int)
  | 0 => []
  | k + 1 => insE (columnE ws gap W) (progE ws gap W k) k k (W.getD k []).length
theorem wl_getD (W : List (List Snd)) (k : Nat) : wl W k = ((W.getD k []).length : Nat) := by unfold wl; rw [List.getD_eq_getElem?_getD]
theorem progE_ent {ws : List Int} {gap : Int} (hc : checkC ws gap = 0) (W : List (List Snd)) : ∀ k, k ≤ 8 → ∀ x ∈ progE ws gap W k, x.length = k ∧ EntOk W x
  | 0, _, x, hx => by cases hx
  | k + 1, hk, x, hx => by
    have ih := progE_ent hc W k (by omega)
    exact insE_ent (cI_nonneg hc W (by omega) (fun x hx => (ih x hx).1) k) (Nat.le_refl k) (fun x hx => ⟨(ih x hx).1, by have := EntAt.of (ih x hx).2; rw [(ih x hx).1] at this; exact this⟩) (wl_getD W k) x hx
def sumL (W : List (List Snd)) (k : Nat) : Nat := match k with
  | 0 => 0
  | k + 1 => sumL W k + (W.getD k []).length
theorem progE_len (ws : List Int) (gap : Int) (W : List (List Snd)) : ∀ k, (progE ws gap W k).length ≤ sumL W k
  | 0 => Nat.le_refl _
  | k + 1 => Nat.le_trans (insE_len ..) (Nat.add_le_add_right (progE_len ws gap W k) _)
end Go.Sy
/- Chapter 18: the variable of the ways; the column of a way; a table of pairs, read. -/
namespace Go.Sy
open Go Go.RowKit
def uW (w : Nat) : Int := if w = 3 then 0 else 1
def sW (w : Nat) : Int := if w = 2 then 0 else 1
section
variable {P : Program} {c : Cx} {L : List Nat} {ρ : Env} {blks : List Blk} {m : Mem} {R : Value → HW → Prop} {Dn : Nat → List U → HW → Prop} {A : List (List U → HW → Prop)}
theorem DenM.loadGl {t ty : TypeId} {d : TypeDesc} {b o : Nat} {shs : List Sh} {k : Tree} (us : List U) (vs : List Value) (hu : P.underlying t = some d) (hl : vs.length = sizeT P t) (ha : isAggT P t = true) (hc : Good c L m → ∀ (j : Nat) v, vs[j]? = some v → vw c L ρ blks m b (o + j) = some v) (hus : Sh.eats shs us = some []) (hv : ((Sh.agg shs).fresh ρ.length).1.den L (ρ ++ us) = .agg vs.toArray)
    (hk : DenM P R Dn k L (ρ ++ us) c m A) : DenM P R Dn (.extp ⟨.load t (.tmp 0), ty, [.cst (.pointer (some ⟨b, o, none⟩))]⟩ (.agg shs) blks k) L ρ c m A := .extp us (uOk_of (by simp only [Sh.eat]; exact hus)) (fun g w hw => by
  rw [hv]
  refine run_value ?_
  show (Instr.loadAt t (.pointer (some ⟨b, o, none⟩))).run P w = _
  simp only [Instr.loadAt, Instr.sureAddr, Sem.run_bind, Sem.run_pure, Result.andThen_ok]
  have := run_loadVar' (P := P) (t := t) (w := w) (b := b) (o := o) (vs := vs) hu hl (fun h => by rw [ha] at h; cases h) fun j v hj => vw_cell hw _ _ _ (hc g j v hj)
  rw [ha] at this
  simpa using this) hk
theorem DenM.loadTP {i i2 : Nat} {bl2 : List Blk} {I J len len2 O : IT} {k : Tree} {eo ei : TypeId} {q : Option Addr} {cap : Nat} {rs : List PD} (d : Nat) (hd : d < 2)
    (hT : TabP m eo ei q cap rs) (x y : Nat) (r : PD) (v : Int × Int) (hr : rs[x]? = some r) (hv : r.v[y]? = some v) (hk : DenM P R Dn k L (ρ ++ [.p r.p, .i r.v.length, .i r.cap] ++ [.i (if d = 0 then v.1 else v.2)]) c m A)
    (hp : ρ.ptr i = q) (hI : I.eval ρ = (x : Int)) (hn : len.eval ρ = (rs.length : Int)) (h2 : Env.ptr (ρ ++ [.p r.p, .i r.v.length, .i r.cap]) i2 = r.p) (hJ : J.eval (ρ ++ [.p r.p, .i r.v.length, .i r.cap]) = (y : Int)) (hl2 : len2.eval (ρ ++ [.p r.p, .i r.v.length, .i r.cap]) = (r.v.length : Int)) (hO : O.eval (ρ ++ [.p r.p, .i r.v.length, .i r.cap]) = ((y * 2 + d : Nat) : Int)) :
    DenM P R Dn (.chk (.pick (.cmp .geq I (.lit 0)) (.pick (.cmp .lss I len) (.some i) (.lit false)) (.lit false)) (.load i (.off I 1 (.lit 0)) [.sl] blks
      (.chk (.pick (.cmp .geq J (.lit 0)) (.pick (.cmp .lss J len2) (.some i2) (.lit false)) (.lit false)) (.chk (.pick (.cmp .geq (.off J 2 (.lit 0)) (.lit 0)) (.some i2) (.lit false)) (.load i2 O [(.int .i64)] bl2 k))))) L ρ c m A := by
  obtain ⟨hx, rfl⟩ := List.getElem?_eq_some_iff.1 hr
  obtain ⟨hy, rfl⟩ := List.getElem?_eq_some_iff.1 hv
  have hin := hT.inn _ (List.getElem_mem hx)
  refine .loadSl (rs.map PD.s) x rs.length rs[x].p rs[x].v.length rs[x].cap hx (by simp [hx, PD.s]) (fun g => by rw [hp]; exact hT.out.reads g) ?_ hI hn
  obtain ⟨g0, hg0⟩ : ∃ g0, rs[x].p = some ⟨g0, 0, none⟩ := by
    rcases hin.2 with ⟨_, h, _⟩ | ⟨g, _, h, _⟩
    · omega
    · exact ⟨g, h⟩
  refine .chk ?_ (.chk ?_ ?_)
  · simp only [BT.eval, IT.eval, hJ, hl2, h2, cm, pick_and]; rw [hg0]; simp; omega
  · simp only [BT.eval, IT.eval, hJ, h2, cm, pick_and]; rw [hg0]; simp; omega
  have hp2 := pcells_at rs[x].v y hy
  refine .load1 (.int .i64 (if d = 0 then rs[x].v[y].1 else rs[x].v[y].2)) rs[x].p (pcells rs[x].v) (y * 2 + d) h2 hO (fun g => hin.reads g) ?_ hk rfl ?_
  · rcases (show d = 0 ∨ d = 1 by omega) with rfl | rfl
    · exact hp2.1
    · exact hp2.2
  · simp only [Sh.freshs, Sh.fresh, SV.dens, SV.den, IT.eval, lU, int_at]
theorem DenM.loadTP0 {i i2 : Nat} {bl2 : List Blk} {I J len len2 O : IT} {k : Tree} {eo ei : TypeId} {q : Option Addr} {cap : Nat} {rs : List PD}
    (hT : TabP m eo ei q cap rs) (x y : Nat) (r : PD) (v : Int × Int) (hr : rs[x]? = some r) (hv : r.v[y]? = some v) (hk : DenM P R Dn k L (ρ ++ [.p r.p, .i r.v.length, .i r.cap] ++ [.i v.1]) c m A)
    (hp : ρ.ptr i = q) (hI : I.eval ρ = (x : Int)) (hn : len.eval ρ = (rs.length : Int)) (h2 : Env.ptr (ρ ++ [.p r.p, .i r.v.length, .i r.cap]) i2 = r.p) (hJ : J.eval (ρ ++ [.p r.p, .i r.v.length, .i r.cap]) = (y : Int)) (hl2 : len2.eval (ρ ++ [.p r.p, .i r.v.length, .i r.cap]) = (r.v.length : Int)) (hO : O.eval (ρ ++ [.p r.p, .i r.v.length, .i r.cap]) = ((y * 2 : Nat) : Int)) :
    DenM P R Dn (.chk (.pick (.cmp .geq I (.lit 0)) (.pick (.cmp .lss I len) (.some i) (.lit false)) (.lit false)) (.load i (.off I 1 (.lit 0)) [.sl] blks
      (.chk (.pick (.cmp .geq J (.lit 0)) (.pick (.cmp .lss J len2) (.some i2) (.lit false)) (.lit false)) (.chk (.pick (.cmp .geq (.off J 2 (.lit 0)) (.lit 0)) (.some i2) (.lit false)) (.load i2 O [(.int .i64)] bl2 k))))) L ρ c m A :=
  .loadTP 0 (by decide) hT x y r v hr hv hk hp hI hn h2 hJ hl2 hO
theorem DenM.loadTP1 {i i2 : Nat} {bl2 : List Blk} {I J len len2 O : IT} {k : Tree} {eo ei : TypeId} {q : Option Addr} {cap : Nat} {rs : List PD}
    (hT : TabP m eo ei q cap rs) (x y : Nat) (r : PD) (v : Int × Int) (hr : rs[x]? = some r) (hv : r.v[y]? = some v) (hk : DenM P R Dn k L (ρ ++ [.p r.p, .i r.v.length, .i r.cap] ++ [.i v.2]) c m A)
    (hp : ρ.ptr i = q) (hI : I.eval ρ = (x : Int)) (hn : len.eval ρ = (rs.length : Int)) (h2 : Env.ptr (ρ ++ [.p r.p, .i r.v.length, .i r.cap]) i2 = r.p) (hJ : J.eval (ρ ++ [.p r.p, .i r.v.length, .i r.cap]) = (y : Int)) (hl2 : len2.eval (ρ ++ [.p r.p, .i r.v.length, .i r.cap]) = (r.v.length : Int)) (hO : O.eval (ρ ++ [.p r.p, .i r.v.length, .i r.cap]) = ((y * 2 + 1 : Nat) : Int)) :
    DenM P R Dn (.chk (.pick (.cmp .geq I (.lit 0)) (.pick (.cmp .lss I len) (.some i) (.lit false)) (.lit false)) (.load i (.off I 1 (.lit 0)) [.sl] blks
      (.chk (.pick (.cmp .geq J (.lit 0)) (.pick (.cmp .lss J len2) (.some i2) (.lit false)) (.lit false)) (.chk (.pick (.cmp .geq (.off J 2 (.lit 0)) (.lit 0)) (.some i2) (.lit false)) (.load i2 O [(.int .i64)] bl2 k))))) L ρ c m A :=
  .loadTP 1 (by decide) hT x y r v hr hv hk hp hI hn h2 hJ hl2 hO
theorem TabP.le {m m' : Mem} {eo ei : TypeId} {q : Option Addr} {cap : Nat} {rs : List PD} (h : TabP m eo ei q cap rs) (hle : m.le m') : TabP m' eo ei q cap rs := h.keep fun _ hb => hle.keep hb
end
end Go.Sy
namespace Go.Proofs.YtkhcfbdjmpodbaaDoor
open Go Go.Sy Go.RowKit
def fS1 : Value := .func (.func n_multi_steps_1) #[] #[]
def fS2 : Value := .func (.func n_multi_steps_2) #[] #[]
def fS3 : Value := .func (.func n_multi_steps_3) #[] #[]
def fW (w : Nat) : Value := if w = 1 then fS1 else if w = 2 then fS2 else fS3
def stepsV : List Value := [.int .i64 1, .int .i64 1, fS1, .int .i64 1, .int .i64 0, fS2, .int .i64 0, .int .i64 1, fS3]
def StepsOk (R : Mv) : Prop := ∀ (j : Nat) v, stepsV[j]? = some v → R g_multi_steps j = some v
theorem StepsOk.mono {R S : Mv} (h : StepsOk R) (hle : R.le S) : StepsOk S := fun j v hj => hle _ _ _ (h j v hj)
theorem steps_fresh (ρ : Env) (L : List Nat) : ((Sh.agg [.int .i64, .int .i64, .val, .int .i64, .int .i64, .val, .int .i64, .int .i64, .val]).fresh ρ.length).1.den L (ρ ++ [.i 1, .i 1, .v fS1, .i 1, .i 0, .v fS2, .i 0, .i 1, .v fS3]) = .agg stepsV.toArray := by
  have e0 := getElem_env ρ [.i 1, .i 1, .v fS1, .i 1, .i 0, .v fS2, .i 0, .i 1, .v fS3] 0
  have e1 := getElem_env ρ [.i 1, .i 1, .v fS1, .i 1, .i 0, .v fS2, .i 0, .i 1, .v fS3] 1
  have e2 := getElem_env ρ [.i 1, .i 1, .v fS1, .i 1, .i 0, .v fS2, .i 0, .i 1, .v fS3] 2
  have e3 := getElem_env ρ [.i 1, .i 1, .v fS1, .i 1, .i 0, .v fS2, .i 0, .i 1, .v fS3] 3
  have e4 := getElem_env ρ [.i 1, .i 1, .v fS1, .i 1, .i 0, .v fS2, .i 0, .i 1, .v fS3] 4
  have e5 := getElem_env ρ [.i 1, .i 1, .v fS1, .i 1, .i 0, .v fS2, .i 0, .i 1, .v fS3] 5
  have e6 := getElem_env ρ [.i 1, .i 1, .v fS1, .i 1, .i 0, .v fS2, .i 0, .i 1, .v fS3] 6
  have e7 := getElem_env ρ [.i 1, .i 1, .v fS1, .i 1, .i 0, .v fS2, .i 0, .i 1, .v fS3] 7
  have e8 := getElem_env ρ [.i 1, .i 1, .v fS1, .i 1, .i 0, .v fS2, .i 0, .i 1, .v fS3] 8
  simp only [Sh.fresh, Sh.freshs, SV.den, SV.dens, IT.eval, Env.int, Env.val, Nat.add_assoc] at e0 e1 e2 e3 e4 e5 e6 e7 e8 ⊢
  rw [Nat.add_zero] at e0
  rw [e0, e1, e2, e3, e4, e5, e6, e7, e8]
  rfl
theorem step_fresh (ρ : Env) (L : List Nat) (u s : Int) (f : Value) : SV.dens L (ρ ++ [.i u, .i s, .v f]) (Sh.freshs [.int .i64, .int .i64, .val] ρ.length).1 = [.int .i64 u, .int .i64 s, f] := by
  have e0 := getElem_env ρ [.i u, .i s, .v f] 0
  have e1 := getElem_env ρ [.i u, .i s, .v f] 1
  have e2 := getElem_env ρ [.i u, .i s, .v f] 2
  simp only [Sh.fresh, Sh.freshs, SV.den, SV.dens, IT.eval, Env.int, Env.val, Nat.add_assoc] at e0 e1 e2 ⊢
  rw [Nat.add_zero] at e0
  rw [e0, e1, e2]
  rfl
theorem fW_one (w : Nat) : (fW w).oneCell' = true := by
  unfold fW; split
  · rfl
  · split <;> rfl
section
variable {c : Cx} {L : List Nat} {ρ : Env} {blks : List Blk} {m : Mem} {R : Value → HW → Prop} {Dn : Nat → List U → HW → Prop} {A : List (List U → HW → Prop)}
theorem _root_.Go.Sy.DenM.loadSteps {ty : TypeId} {k : Tree} (hV : Good c L m → StepsOk (vw c L ρ blks m)) (hk : DenM Tryd.prog R Dn k L (ρ ++ [.i 1, .i 1, .v fS1, .i 1, .i 0, .v fS2, .i 0, .i 1, .v fS3]) c m A) :
    DenM Tryd.prog R Dn (.extp ⟨.load 115 (.tmp 0), ty, [.cst (.pointer (some ⟨g_multi_steps, 0, none⟩))]⟩ (.agg [.int .i64, .int .i64, .val, .int .i64, .int .i64, .val, .int .i64, .int .i64, .val]) blks k) L ρ c m A :=
  .loadGl [.i 1, .i 1, .v fS1, .i 1, .i 0, .v fS2, .i 0, .i 1, .v fS3] stepsV Tryd.underlying115 (by kernel_rfl) (by kernel_rfl) (fun g j v hj => by rw [Nat.zero_add]; exact hV g j v hj) rfl (steps_fresh _ _) hk
theorem _root_.Go.Sy.DenM.stepAt {ty : TypeId} {x : SV} {bl2 : List Blk} {k : Tree} {i : Nat} (w : Nat) (hw : w = 1 ∨ w = 2 ∨ w = 3) (hx : x.den L ρ = .int .i64 ((w - 1 : Nat) : Int)) (hi : i = ρ.length) (hV : Good c L m → StepsOk (vw c L (ρ ++ [.p (some ⟨g_multi_steps, (w - 1) * 3, none⟩)]) bl2 m))
    (hk : DenM Tryd.prog R Dn k L (ρ ++ [.p (some ⟨g_multi_steps, (w - 1) * 3, none⟩)] ++ [.i (uW w), .i (sW w), .v (fW w)]) c m A) :
    DenM Tryd.prog R Dn (.extp ⟨.indexAddr 115 (.tmp 0) (.tmp 0), ty, [.cst (.pointer (some ⟨g_multi_steps, 0, none⟩)), x]⟩ .ptr blks (.load i (.lit 0) [.int .i64, .int .i64, .val] bl2 k)) L ρ c m A := by
  refine .extp [.p (some ⟨g_multi_steps, (w - 1) * 3, none⟩)] ⟨_, rfl⟩ (fun g wd hw' => ?_) ?_
  · show (do pure (.value (← Instr.indexAt 115 (.pointer (some ⟨g_multi_steps, 0, none⟩)) (x.den L ρ))) : Sem Next).run Tryd.prog wd = _
    rw [hx, Sem.run_bind, run_indexAt_array wd 115 _ _ _ (by kernel_rfl), if_pos ⟨by omega, by rw [show Tryd.prog.arrayLen 115 = 3 by kernel_rfl]; omega⟩, show (sizeOf (Tryd.prog.elem 115)).run Tryd.prog wd = .ok 3 wd by kernel_rfl]
    simp only [Result.andThen_ok, Sem.run_pure, Sh.fresh, SV.den, atAddr, IT.eval]
    have e0 : Env.ptr (ρ ++ [.p (some ⟨g_multi_steps, (w - 1) * 3, none⟩)]) ρ.length = some ⟨g_multi_steps, (w - 1) * 3, none⟩ := by
      have := getElem_env ρ [.p (some ⟨g_multi_steps, (w - 1) * 3, none⟩)] 0
      rw [Nat.add_zero] at this
      simp only [Env.ptr, this]; rfl
    rw [e0]
    simp only [Option.map_some, addr_add, Int.toNat_natCast, Nat.zero_add]
    simp
  · subst hi
    refine .load [.i (uW w), .i (sW w), .v (fW w)] g_multi_steps ((w - 1) * 3) (usOk_of (by simp [Sh.eats, Sh.eat, eatI, eatV, fW_one])) ?_ (fun g j v hj => ?_) hk
    · have := getElem_env ρ [.p (some ⟨g_multi_steps, (w - 1) * 3, none⟩)] 0
      rw [Nat.add_zero] at this
      simp only [atAddr, Env.ptr, this, IT.eval]
      simp [addr_add]
    · have hl : (ρ ++ [U.p (some ⟨g_multi_steps, (w - 1) * 3, none⟩)]).length = ρ.length + 1 := by simp
      rw [step_fresh] at hj
      have hV := hV g
      refine hV _ v ?_
      have hj3 : j < 3 := by have := (List.getElem?_eq_some_iff.1 hj).1; simpa using this
      rcases hw with rfl | rfl | rfl <;> (match j, hj3, hj with
        | 0, _, hj => exact hj
        | 1, _, hj => exact hj
        | 2, _, hj => exact hj)
end
theorem c_madeW (w : Nat) (hw : w = 1 ∨ w = 2 ∨ w = 3) (rs : List IR) (i n place : Nat) (j : Int) (a cb pb : Nat) (p pc : Option Addr) (cp cc ln : Nat) (hln : ln = n + 1) (hn : n < 2 ^ 14) (hpl : place ≤ n) (hi : w = 1 ∨ w = 2 → i < rs.length) (hr : rs.length < 2 ^ 62) (hrl : ∀ r ∈ rs, r.ok ∧ r.l.length = n) (hn0 : rs ≠ [] → 0 < n) :
    FnM Tryd.prog n_multi_insert_1 [.int .i64 (i : Int), .int .i64 j, .agg #[.int .i64 (uW w), .int .i64 (sW w), fW w], .pointer (some ⟨a, 0, none⟩), .pointer (some ⟨cb, 0, none⟩), .pointer (some ⟨pb, 0, none⟩)]
      (fun R => Cells R (some ⟨a, 0, none⟩) [slv p ln cp] ∧ Cells R (some ⟨cb, 0, none⟩) [slv pc rs.length cc] ∧ Cells R (some ⟨pb, 0, none⟩) [.int .i64 (place : Int)] ∧ RowsAt R pc rs)
      fun v mq _ => ∃ q cq, v = slv q (n + 1) cq ∧ Row mq 3 1 q cq (n + 1) (intsL (lookS (rs.map (·.l)) n place i j w)) := by
  have hget : ∀ (h : i < rs.length), (rs.map (·.l)).getD i [] = rs[i].l := fun h => by rw [List.getD_eq_getElem?_getD, List.getElem?_map, List.getElem?_eq_getElem h]; rfl
  have hols : ∀ x ∈ rs.map (·.l), x.length = n := fun x hx => by obtain ⟨r, hr, rfl⟩ := List.mem_map.1 hx; exact (hrl r hr).2
  have hlen : (lookS (rs.map (·.l)) n place i j w).length = n + 1 := lookS_len' hpl hols (fun h => by rw [List.length_map]; exact hi h)
  have key := c_made rs i n place j (uW w) (sW w) (fW w) (fW_one w) (lookS (rs.map (·.l)) n place i j w) a cb pb p pc cp cc ln hln (by omega) (fun h => hi (by unfold uW at h; split at h <;> omega)) hr
  rw [hlen] at key
  refine key fun r ht => ?_
  rcases hw with rfl | rfl | rfl
  · have hi := hi (.inl rfl)
    have ht : rs[i]? = some r := ht
    rw [List.getElem?_eq_getElem hi] at ht
    cases ht
    obtain ⟨hok, hln⟩ := hrl _ (List.getElem_mem hi)
    have := hn0 (fun e => by rw [e] at hi; simp at hi)
    have h1 := c_steps1 rs[i] hok place j (fun e => by rw [e] at hln; simp at hln; omega) (by omega) (by omega)
    have e : lookS (rs.map (·.l)) n place i j ((1 : Nat) : Int) = insS rs[i].l place j := by unfold lookS; rw [if_pos (show ((1 : Nat) : Int) = 1 from rfl), hget hi]
    rw [e, ← hln]
    exact FnV.of0 (by kernel_rfl) h1
  · have hi := hi (.inr rfl)
    have ht : rs[i]? = some r := ht
    rw [List.getElem?_eq_getElem hi] at ht
    cases ht
    obtain ⟨hok, hln⟩ := hrl _ (List.getElem_mem hi)
    have := hn0 (fun e => by rw [e] at hi; simp at hi)
    have h1 := c_steps2 rs[i] hok place j (fun e => by rw [e] at hln; simp at hln; omega) (by omega) (by omega)
    have e : lookS (rs.map (·.l)) n place i j ((2 : Nat) : Int) = insS rs[i].l place (-1) := by unfold lookS; rw [if_neg (by decide), if_pos (show ((2 : Nat) : Int) = 2 from rfl), hget hi]
    rw [e, ← hln]
    exact FnV.of0 (by kernel_rfl) h1
  · have ht : r.l = List.replicate n 0 := ht
    have hln : r.l.length = n := by rw [ht, List.length_replicate]
    have h1 := c_steps3 r place j (by omega) (by omega)
    have e : lookS (rs.map (·.l)) n place i j ((3 : Nat) : Int) = newS (n + 1) place j := by unfold lookS; rw [if_neg (by decide), if_neg (by decide)]
    rw [e, ← hln]
    exact (FnV.of0 (by kernel_rfl) h1).weak fun _ _ => trivial
end Go.Proofs.YtkhcfbdjmpodbaaDoor
/- Chapter 18: the insertion of a word. -/
namespace Go.Sy
open Go Go.RowKit
def pickT (c : Nat → Nat → Nat → Int) (m n i j : Nat) : Nat → Int × Nat
  | 0 => (-1, 0)
  | k + 1 => stepP (pickT c m n i j k) (k + 1) (candI c m n i j (k + 1))
def pl (c : Nat → Nat → Nat → Int) (m n i j : Nat) : Int × Int := (AI c m n i j, (((pickI c m n i j).2 - 1 : Nat) : Int))
def rowP (c : Nat → Nat → Nat → Int) (m n i : Nat) : List (Int × Int) := (List.range (n + 1)).map (pl c m n i)
theorem rowP_at (c : Nat → Nat → Nat → Int) (m n i : Nat) {j : Nat} (h : j ≤ n) : (rowP c m n i)[j]? = some (pl c m n i j) := by
  unfold rowP; rw [List.getElem?_map, List.getElem?_range (by omega)]; rfl
theorem pcells_zero (n : Nat) : pcells (List.replicate n ((0 : Int), (0 : Int))) = List.replicate (n * 2) (.int .i64 0) := by
  induction n with
  | zero => rfl
  | succ n ih =>
    rw [List.replicate_succ]
    show [Value.int .i64 0, .int .i64 0] ++ pcells _ = _
    rw [ih, show (n + 1) * 2 = (n * 2 + 1) + 1 by omega, List.replicate_succ, List.replicate_succ]; rfl
end Go.Sy
namespace Go.Proofs.YtkhcfbdjmpodbaaDoor
open Go Go.Sy Go.RowKit
theorem plan_info : (Tryd.prog.info? 114).map (fun i => (i.zero, i.size, i.bytes)) = some (some (.agg #[.int .i64 0, .int .i64 0]), 2, 16) := by kernel_rfl
theorem plans_info : (Tryd.prog.info? 112).map (fun i => (i.zero, i.size, i.bytes)) = some (some (.slice none 0 0), 1, 24) := by kernel_rfl
set_option maxHeartbeats 1000000 in
theorem c_insert (p pc : Option Addr) (cp cc : Nat) (l : List WD) (rs : List IR) (n place wn M : Nat) (fv : Value) (K : Mv → Prop) (okc : List Int → Prop) (cost : List Int → Int) (hv : PrV fv K okc cost) (hl : l.length = n + 1) (hM : M = rs.length) (hn : n < 2 ^ 14) (hpl : place ≤ n) (hwn : (l[place]'(by omega)).w.length = wn) (hB : M + wn ≤ 2 ^ 19) (hrl : ∀ r ∈ rs, r.ok ∧ r.l.length = n) (hn0 : rs ≠ [] → 0 < n)
    (hnn : ∀ w i j, 0 ≤ cI cost (rs.map (·.l)) n place w i j) (hokc : ∀ w i j, openI M wn i j w → okc (lookS (rs.map (·.l)) n place i j w)) :
    FnM Tryd.prog n_multi_insert [slv p l.length cp, slv pc M cc, .int .i64 (place : Int), fv] (fun R => K R ∧ WordsAt R p l ∧ RowsAt R pc rs ∧ StepsOk R)
      fun v mq _ => ∃ q cq rs', v = slv q rs'.length cq ∧ rs'.map (·.l) = insE cost (rs.map (·.l)) n place wn ∧ TabI mq q cq rs' := by
  have hols : ∀ x ∈ rs.map (·.l), x.length = n := fun x hx => by obtain ⟨r, hr, rfl⟩ := List.mem_map.1 hx; exact (hrl r hr).2
  have hlm : (rs.map (·.l)).length = M := by rw [List.length_map, hM]
  have hBB : ∀ w i j, openI M wn i j w → cI cost (rs.map (·.l)) n place w i j ≤ 2199023255552 := fun w i j h => (hv.bound _ (hokc w i j h)).2
  have hins : insE cost (rs.map (·.l)) n place wn = outI (cI cost (rs.map (·.l)) n place) M wn (fun w i j => lookS (rs.map (·.l)) n place i j w) (M + wn) 0 0 := by unfold insE; rw [hlm]
  rw [hins]
  generalize hcc : cI cost (rs.map (·.l)) n place = cc0 at hnn hBB ⊢
  have hcc' : ∀ w i j : Nat, cost (lookS (rs.map (·.l)) n place i j w) = cc0 w i j := fun w i j => by rw [← hcc]; rfl
  have eM := add_i64 M (by omega)
  have ew := add_i64 wn (by omega)
  have hpl' : place < l.length := by omega
  refine FnM.of S_multi_insert mx [.p p, .i l.length, .i cp, .p pc, .i M, .i cc, .i place, .v fv] (by simp [Sh.eats, Sh.eat, eatV, eatP, eatS, eatI, hv.one]) rfl fun c hp => .alloc fun b0 => .alloc fun b1 => .alloc fun b2 => .chk (by ((try simp only [evE, liE, lO, lU, snd]); (try simp only [cmE])); omega) (.loadWD l place hpl' (fun g => hp.2.1.1.mono g.R) ?_)
  rw [hwn]
  refine .env (by (try simp only [liE, lO, lU, snd, aN]); rfl) (.chk (by ((try simp only [evE, liE, lO, lU, snd]); (try simp only [cmE])); omega) ?_)
  refine .make (M + 1) Tryd.underlying107 plans_info rfl (by omega) (by simp [maxLen]; omega) (fun g9 hg9 hrow => ?_) (by show Value.int _ (ar .add .i64 (M : Int) 1) = _; rw [eM]) (by show Value.int _ (ar .add .i64 (M : Int) 1) = _; rw [eM])
  revert hrow
  generalize Mem.upd _ g9 _ = m1
  intro hrow
  have hT : TabP m1 112 114 (some ⟨g9, 0, none⟩) (M + 1) (List.replicate (M + 1) ⟨none, 0, []⟩) := ⟨by rw [List.length_replicate, List.map_replicate]; exact hrow, fun r hr => by rw [(List.mem_replicate.1 hr).2]; exact Row.nil _ _ _, (fun i j hi hj g _ h => by rw [List.getElem_replicate] at h; cases h), by decide⟩
  refine .env (by (try simp only [liE, lO, lU, snd, aN]); rfl) (.loop (fun k us m => ∃ rs' : List PD, us = [.i ((k : Int) - 1)] ∧ k ≤ M + 1 ∧ rs'.length = M + 1 ∧ TabP m 112 114 (some ⟨g9, 0, none⟩) (M + 1) rs' ∧ ∀ x, k ≤ x → x ≤ M → (rs'[x]?.map (·.v)) = some (rowP cc0 M wn x)) (M + 1)
    ⟨_, ?_, Nat.le_refl _, by simp, hT, fun k h1 h2 => by omega⟩ ?_)
  · (simp only [evE, liE, lO, lU, snd, Sh.uss, Sh.us, atAddr, map_add0, List.append_nil]); rw [show ((M + 1 : Nat) : Int) - 1 = M by omega]
  clear hT hrow
  rintro k _ m _ ⟨rs', rfl, hk, hrl', hT, hhi⟩
  refine .ite (fun h1 => ?_) (fun h1 => ?_) <;> ((try simp only [evE, liE, lO, lU, snd] at h1); (try simp only [cmE] at h1))
  · obtain ⟨i, rfl⟩ : ∃ i, k = i + 1 := ⟨k - 1, by omega⟩
    refine .env (by (try simp only [liE, lO, lU, snd, aN]); rw [show ((i + 1 : Nat) : Int) - 1 = (i : Int) by omega]) (.makeN (bytes := 16) (size := 2) (z := .agg #[.int .i64 0, .int .i64 0]) (wn + 1) (pcells (List.replicate (wn + 1) (0, 0))) Tryd.underlying112 plan_info (by rw [pcells_zero]; exact made_two _ _) (by omega) (by simp [maxLen]; omega) (fun g8 hg8 hrow8 => ?_) (by show Value.int _ (ar .add .i64 (wn : Int) 1) = _; rw [ew]) (by show Value.int _ (ar .add .i64 (wn : Int) 1) = _; rw [ew]))
    have hnew : ∀ (k : Nat) (hk : k < rs'.length) (b' : Nat), rs'[k].p = some ⟨b', 0, none⟩ → (some ⟨g8, 0, none⟩ : Option Addr) ≠ some ⟨b', 0, none⟩ := fun k hk b' h1 h2 => by
      cases h2
      rcases (hT.inn _ (List.getElem_mem hk)).2 with ⟨e, _⟩ | ⟨g', cur, e, e2, _⟩
      · rw [e] at h1; cases h1
      · rw [e] at h1; cases h1; rw [hg8] at e2; cases e2
    have hT1 : ∀ o, TabP (m.upd g8 o) 112 114 (some ⟨g9, 0, none⟩) (M + 1) rs' := fun o => hT.keep fun b hb => Mem.upd_other _ _ fun e => hb (e ▸ hg8)
    replace hT1 := hT1 (.cells (madeCells (Value.cells (.agg #[.int .i64 0, .int .i64 0])) ((wn + 1) * 2)) 114 (0, 0))
    revert hrow8 hT1
    generalize Mem.upd m g8 _ = m2
    intro hrow8 hT1
    refine .env (by (try simp only [liE, lO, lU, snd, aN]); rfl) (.storeR i (by omega : i < rs'.length) hT1.out rfl rfl (by show ((M + 1 : Nat) : Int) = _; rw [hrl']) (fun m3 g2 hg2 ho2 hs2 => ?_))
    obtain rfl : g9 = g2 := by cases hg2; rfl
    have hT2 := hT1.setRow (r := ⟨some ⟨g8, 0, none⟩, wn + 1, List.replicate (wn + 1) (0, 0)⟩) (by omega : i < rs'.length) rfl (by rw [show PD.s ⟨some ⟨g8, 0, none⟩, wn + 1, List.replicate (wn + 1) (0, 0)⟩ = slv (some ⟨g8, 0, none⟩) (wn + 1) (wn + 1) by simp [PD.s]]; exact ho2) hs2 (by rw [List.length_replicate]; exact hrow8) hnew
    clear hT hT1 ho2 hrow8 hs2 hnew
    refine .env (by (try simp only [liE, lO, lU, snd, aN]); rfl) (.loop (fun k' us m' => ∃ vs : List (Int × Int), us = [.i ((k' : Int) - 1)] ∧ k' ≤ wn + 1 ∧ vs.length = wn + 1 ∧ TabP m' 112 114 (some ⟨g9, 0, none⟩) (M + 1) (rs'.set i ⟨some ⟨g8, 0, none⟩, wn + 1, vs⟩) ∧ ∀ y, k' ≤ y → y ≤ wn → vs[y]? = some (pl cc0 M wn i y)) (wn + 1)
      ⟨List.replicate (wn + 1) (0, 0), ?_, Nat.le_refl _, by simp, hT2, fun j h1 h2 => by omega⟩ ?_)
    · (simp only [evE, liE, lO, lU, snd, Sh.uss, Sh.us, atAddr, map_add0, List.append_nil]); rw [show ((wn + 1 : Nat) : Int) - 1 = wn by omega]
    clear hT2
    rintro k' _ m4 _ ⟨vs, rfl, hk', hvl, hT4, hvs⟩
    refine .ite (fun h2 => ?_) (fun h2 => .again rfl ⟨i, by omega, rs'.set i ⟨some ⟨g8, 0, none⟩, wn + 1, vs⟩, ?_, by omega, by rw [List.length_set]; exact hrl', hT4, fun x hx1 hx2 => ?_⟩) <;> ((try simp only [evE, liE, lO, lU, snd] at h2); (try simp only [cmE] at h2))
    · obtain ⟨j, rfl⟩ : ∃ j, k' = j + 1 := ⟨k' - 1, by omega⟩
      have hil : i ≤ M := by omega
      have hjl : j ≤ wn := by omega
      have hrow : (rs'.set i ⟨some ⟨g8, 0, none⟩, wn + 1, vs⟩)[i]? = some ⟨some ⟨g8, 0, none⟩, wn + 1, vs⟩ := List.getElem?_set_self (by omega)
      have hlen5 : (rs'.set i ⟨some ⟨g8, 0, none⟩, wn + 1, vs⟩).length = M + 1 := by rw [List.length_set]; exact hrl'
      have hnext : ∀ i' j', (i' = i ∧ j < j' ∨ i' = i + 1) → i' ≤ M → j' ≤ wn → ∃ r, (rs'.set i ⟨some ⟨g8, 0, none⟩, wn + 1, vs⟩)[i']? = some r ∧ r.v[j']? = some (pl cc0 M wn i' j') := fun i' j' h hi' hj' => by
        rcases h with ⟨rfl, h⟩ | rfl
        · exact ⟨_, hrow, hvs j' h hj'⟩
        · have := hhi (i + 1) (by omega) hi'
          rw [List.getElem?_set_ne (by omega)]
          cases hr : rs'[i + 1]? with
          | none => rw [hr] at this; cases this
          | some r =>
            rw [hr] at this
            simp only [Option.map_some, Option.some.injEq] at this
            exact ⟨r, rfl, by rw [this]; exact rowP_at _ _ _ _ hj'⟩
      refine .env (by (try simp only [liE, lO, lU, snd, aN]); rw [show ((j + 1 : Nat) : Int) - 1 = (j : Int) by omega]) (.alloc fun b3 => .loadSteps (fun g => hp.2.2.2.mono g.R) (.env (by (try simp only [liE, lO, lU, snd, aN]); rfl) ?_))
      refine .loop (fun k3 us m' => ∃ b : Nat, b ≤ 3 ∧ us = [.i b, .i (pickT cc0 M wn i j b).1, .i (((pickT cc0 M wn i j b).2 - 1 : Nat) : Int)] ∧ k3 = 3 - b ∧ TabP m' 112 114 (some ⟨g9, 0, none⟩) (M + 1) (rs'.set i ⟨some ⟨g8, 0, none⟩, wn + 1, vs⟩)) 3 ⟨0, by omega, by (simp only [evE, liE, lO, lU, snd, Sh.uss, Sh.us, atAddr, map_add0, List.append_nil]); rfl, rfl, hT4⟩ ?_
      clear hT4
      rintro k3 _ m5 _ ⟨by0, hb3, rfl, rfl, hT5⟩
      refine .env (by (try simp only [liE, lO, lU, snd, aN]); rfl) (.ite (fun h3 => ?_) (fun h3 => ?_)) <;> ((try simp only [evE, liE, lO, lU, snd] at h3); (try simp only [cmE] at h3))
      · refine .join (fun us m' => us = [.i (pickT cc0 M wn i j (by0 + 1)).1, .i (((pickT cc0 M wn i j (by0 + 1)).2 - 1 : Nat) : Int)] ∧ TabP m' 112 114 (some ⟨g9, 0, none⟩) (M + 1) (rs'.set i ⟨some ⟨g8, 0, none⟩, wn + 1, vs⟩)) (.chk (by ((try simp only [evE, liE, lO, lU, snd]); (try simp only [cmE])); omega) (.chk (by ((try simp only [evE, liE, lO, lU, snd]); (try simp only [cmE])); omega) (.ite (fun h4 => ?c1) (fun h4 => .ite (fun h4 => ?c2) (fun h4 => .ite (fun h4 => ?c3) (fun h4 => ?c4)))))) ?c5
        case c4 => exfalso; rename_i q1 q2; ((try simp only [evE, liE, lO, lU, snd] at h4); (try simp only [cmE] at h4)); ((try simp only [evE, liE, lO, lU, snd] at q1); (try simp only [cmE] at q1)); ((try simp only [evE, liE, lO, lU, snd] at q2); (try simp only [cmE] at q2)); omega
        case c5 =>
          rintro _ m7 _ ⟨rfl, hT7⟩
          refine .env (by (try simp only [liE, lO, lU, snd, aN]); rfl) (.again rfl ⟨3 - (by0 + 1), by omega, by0 + 1, by omega, ?_, rfl, hT7⟩)
          (simp only [evE, liE, lO, lU, snd, Sh.uss, Sh.us, atAddr, map_add0, List.append_nil]); rw [add_i64 by0 (by omega)]
        case c1 =>
          ((try simp only [evE, liE, lO, lU, snd] at h4); (try simp only [cmE] at h4))
          obtain rfl : by0 = 0 := by omega
          refine .alloc fun _ => .join (fun us mm => m5 = mm ∧ ∃ x : Bool, us = [.b x] ∧ (x = true ↔ ¬ ((afterS i j ((1 : Nat) : Int)).1 ≤ M ∧ (afterS i j ((1 : Nat) : Int)).2 ≤ wn))) (.again rfl ⟨rfl, _, rfl, ?_⟩) ?_
          · ((try simp only [evE, liE, lO, lU, snd]); (try simp only [cmE])); rw [add_i64 i (by omega), add_i64 j (by omega)]; show _ ↔ ¬ ((i + 1) ≤ M ∧ (j + 1) ≤ wn); omega
          rintro _ _ _ ⟨rfl, x, rfl, hx⟩
          refine .env (by (try simp only [liE, lO, lU, snd, aN]); rfl) (.ite (fun h5 => .again rfl ⟨?_, hT5⟩) (fun h5 => ?_))
          · have h5 : x = true := h5
            have hcn : candI cc0 M wn i j 1 = none := by unfold candI; rw [if_neg (hx.1 h5)]
            show [U.i (pickT cc0 M wn i j 0).1, U.i (((pickT cc0 M wn i j 0).2 - 1 : Nat) : Int)] = [U.i (stepP (pickT cc0 M wn i j 0) 1 (candI cc0 M wn i j 1)).1, U.i (((stepP (pickT cc0 M wn i j 0) 1 (candI cc0 M wn i j 1)).2 - 1 : Nat) : Int)]
            rw [hcn]; rfl
          · have h5 : x = false := h5
            have hop2 : (i + 1) ≤ M ∧ (j + 1) ≤ wn := by
              by_cases h : (i + 1) ≤ M ∧ (j + 1) ≤ wn
              · exact h
              · rw [hx.2 h] at h5; cases h5
            have hop : openI M wn i j 1 := ⟨(.inl rfl), hop2⟩
            obtain ⟨r, hr, hrv⟩ := hnext (i + 1) (j + 1) (by omega) hop2.1 hop2.2
            have hcn : candI cc0 M wn i j 1 = some (cc0 1 i j + AI cc0 M wn (i + 1) (j + 1)) := by unfold candI; exact if_pos hop2
            have hlook : (lookS (rs.map (·.l)) n place i j ((1 : Nat) : Int)).length = n + 1 := lookS_len' hpl hols fun h => by rw [List.length_map, ← hM]; exact (open_lt hop).1 h
            have hok := hokc _ _ _ hop
            have hcb := hv.bound _ hok
            rw [hcc'] at hcb
            have hA1 := AI_nonneg hnn M wn (i + 1) (j + 1)
            have hA2 := AI_le hBB (i + 1) (j + 1)
            refine .loadTP0 hT5 (i + 1) (j + 1) r (pl cc0 M wn (i + 1) (j + 1)) hr hrv ?_ rfl (by show ar .add .i64 (i : Int) 1 = _; exact add_i64 i (by omega)) (by rw [hlen5]; rfl) rfl (by show ar .add .i64 (j : Int) 1 = _; exact add_i64 j (by omega)) rfl (by show (0 : Int) + ar .add .i64 (j : Int) 1 * ((2 : Nat) : Int) = _; rw [add_i64 j (by omega)]; omega)
            refine .env (by (try simp only [liE, lO, lU, snd, aN]); rfl) (.callE (c_madeW 1 (.inl rfl) rs i n place (j : Int) b0 b1 b2 p pc cp cc l.length hl (by omega) hpl (fun h => by rw [← hM]; exact (open_lt hop).1 h) (by omega) hrl hn0) (fun g => ⟨g.cells (j := 0) rfl rfl rfl, by rw [← hM]; exact g.cells (j := 1) rfl rfl rfl, g.cells (j := 2) rfl rfl rfl, hp.2.2.1.mono g.R⟩) ?_)
            rintro v mq m6 hle6 hqe ⟨q6, c6, rfl, hR6⟩
            have hT6 := hT5.le hle6
            replace hR6 := Row.le hR6 hqe
            refine ⟨[.p q6, .i (n + 1 : Nat), .i (c6 : Nat)], uOk_of rfl, (slv_fresh _ _ _ _ _).symm, .env (by (try simp only [liE, lO, lU, snd, aN]); rfl) (.callvR (hv.run ⟨q6, c6, lookS (rs.map (·.l)) n place i j ((1 : Nat) : Int)⟩ hok (by show (lookS (rs.map (·.l)) n place i j ((1 : Nat) : Int)).length ≤ c6; rw [hlook]; exact hR6.cap_le)) (fun g => ⟨hv.mono hp.1 g.R, hR6.reads g⟩) (fun m7 hk7 => ?_) rfl (by show [slv q6 (n + 1) c6] = [slv q6 (lookS (rs.map (·.l)) n place i j ((1 : Nat) : Int)).length c6]; rw [hlook]))⟩
            have hT7 := hT6.keep hk7
            have hsum : ar .add .i64 (cost (lookS (rs.map (·.l)) n place i j ((1 : Nat) : Int))) (pl cc0 M wn (i + 1) (j + 1)).1 = cc0 1 i j + AI cc0 M wn (i + 1) (j + 1) := by
              show ar .add .i64 (cost (lookS (rs.map (·.l)) n place i j ((1 : Nat) : Int))) (AI cc0 M wn (i + 1) (j + 1)) = _
              rw [hcc' 1 i j, addI (by omega) (by omega)]
            refine .env (by (try simp only [liE, lO, lU, snd, aN]); rfl) (.join (fun us mm => m7 = mm ∧ ∃ x : Bool, us = [.b x] ∧ (x = true ↔ (pickT cc0 M wn i j 0).1 < 0 ∨ cc0 1 i j + AI cc0 M wn (i + 1) (j + 1) < (pickT cc0 M wn i j 0).1)) (.again rfl ⟨rfl, _, rfl, ?_⟩) ?_)
            · ((try simp only [evE, liE, lO, lU, snd]); (try simp only [cmE])); rw [hsum]
            rintro _ _ _ ⟨rfl, y, rfl, hy⟩
            refine .env (by (try simp only [liE, lO, lU, snd, aN]); rfl) (.join (fun us mm => m7 = mm ∧ us = [U.i (pickT cc0 M wn i j 1).1, U.i (((pickT cc0 M wn i j 1).2 - 1 : Nat) : Int)]) (.ite (fun h6 => .again rfl ⟨rfl, ?_⟩) (fun h6 => .again rfl ⟨rfl, ?_⟩)) ?_)
            · have h6 : y = true := h6
              have e : pickT cc0 M wn i j 1 = (cc0 1 i j + AI cc0 M wn (i + 1) (j + 1), 1) := by
                show stepP (pickT cc0 M wn i j 0) 1 (candI cc0 M wn i j 1) = _
                rw [hcn]; unfold stepP; exact if_pos (hy.1 h6)
              rw [e]; (simp only [evE, liE, lO, lU, snd, Sh.uss, Sh.us, atAddr, map_add0, List.append_nil]); rw [hsum]
            · have h6 : y = false := h6
              have e : pickT cc0 M wn i j 1 = pickT cc0 M wn i j 0 := by
                show stepP (pickT cc0 M wn i j 0) 1 (candI cc0 M wn i j 1) = _
                rw [hcn]; exact if_neg fun h => by rw [hy.2 h] at h6; cases h6
              rw [e]; (simp only [evE, liE, lO, lU, snd, Sh.uss, Sh.us, atAddr, map_add0, List.append_nil])
            rintro _ _ _ ⟨rfl, rfl⟩
            exact .env (by (try simp only [liE, lO, lU, snd, aN]); rfl) (.again rfl ⟨rfl, hT7⟩)
        case c2 =>
          ((try simp only [evE, liE, lO, lU, snd] at h4); (try simp only [cmE] at h4))
          obtain rfl : by0 = 1 := by omega
          refine .alloc fun _ => .join (fun us mm => m5 = mm ∧ ∃ x : Bool, us = [.b x] ∧ (x = true ↔ ¬ ((afterS i j ((2 : Nat) : Int)).1 ≤ M ∧ (afterS i j ((2 : Nat) : Int)).2 ≤ wn))) (.again rfl ⟨rfl, _, rfl, ?_⟩) ?_
          · ((try simp only [evE, liE, lO, lU, snd]); (try simp only [cmE])); rw [add_i64 i (by omega), addI (a := (j : Int)) (b := 0) (by omega) (by omega)]; show _ ↔ ¬ ((i + 1) ≤ M ∧ j ≤ wn); omega
          rintro _ _ _ ⟨rfl, x, rfl, hx⟩
          refine .env (by (try simp only [liE, lO, lU, snd, aN]); rfl) (.ite (fun h5 => .again rfl ⟨?_, hT5⟩) (fun h5 => ?_))
          · have h5 : x = true := h5
            have hcn : candI cc0 M wn i j 2 = none := by unfold candI; rw [if_neg (hx.1 h5)]
            show [U.i (pickT cc0 M wn i j 1).1, U.i (((pickT cc0 M wn i j 1).2 - 1 : Nat) : Int)] = [U.i (stepP (pickT cc0 M wn i j 1) 2 (candI cc0 M wn i j 2)).1, U.i (((stepP (pickT cc0 M wn i j 1) 2 (candI cc0 M wn i j 2)).2 - 1 : Nat) : Int)]
            rw [hcn]; rfl
          · have h5 : x = false := h5
            have hop2 : (i + 1) ≤ M ∧ j ≤ wn := by
              by_cases h : (i + 1) ≤ M ∧ j ≤ wn
              · exact h
              · rw [hx.2 h] at h5; cases h5
            have hop : openI M wn i j 2 := ⟨(.inr (.inl rfl)), hop2⟩
            obtain ⟨r, hr, hrv⟩ := hnext (i + 1) j (by omega) hop2.1 hop2.2
            have hcn : candI cc0 M wn i j 2 = some (cc0 2 i j + AI cc0 M wn (i + 1) j) := by unfold candI; exact if_pos hop2
            have hlook : (lookS (rs.map (·.l)) n place i j ((2 : Nat) : Int)).length = n + 1 := lookS_len' hpl hols fun h => by rw [List.length_map, ← hM]; exact (open_lt hop).1 h
            have hok := hokc _ _ _ hop
            have hcb := hv.bound _ hok
            rw [hcc'] at hcb
            have hA1 := AI_nonneg hnn M wn (i + 1) j
            have hA2 := AI_le hBB (i + 1) j
            refine .loadTP0 hT5 (i + 1) j r (pl cc0 M wn (i + 1) j) hr hrv ?_ rfl (by show ar .add .i64 (i : Int) 1 = _; exact add_i64 i (by omega)) (by rw [hlen5]; rfl) rfl (by show ar .add .i64 (j : Int) 0 = _; rw [addI (by omega) (by omega), Int.add_zero]) rfl (by show (0 : Int) + ar .add .i64 (j : Int) 0 * ((2 : Nat) : Int) = _; rw [addI (by omega) (by omega)]; omega)
            refine .env (by (try simp only [liE, lO, lU, snd, aN]); rfl) (.callE (c_madeW 2 (.inr (.inl rfl)) rs i n place (j : Int) b0 b1 b2 p pc cp cc l.length hl (by omega) hpl (fun h => by rw [← hM]; exact (open_lt hop).1 h) (by omega) hrl hn0) (fun g => ⟨g.cells (j := 0) rfl rfl rfl, by rw [← hM]; exact g.cells (j := 1) rfl rfl rfl, g.cells (j := 2) rfl rfl rfl, hp.2.2.1.mono g.R⟩) ?_)
            rintro v mq m6 hle6 hqe ⟨q6, c6, rfl, hR6⟩
            have hT6 := hT5.le hle6
            replace hR6 := Row.le hR6 hqe
            refine ⟨[.p q6, .i (n + 1 : Nat), .i (c6 : Nat)], uOk_of rfl, (slv_fresh _ _ _ _ _).symm, .env (by (try simp only [liE, lO, lU, snd, aN]); rfl) (.callvR (hv.run ⟨q6, c6, lookS (rs.map (·.l)) n place i j ((2 : Nat) : Int)⟩ hok (by show (lookS (rs.map (·.l)) n place i j ((2 : Nat) : Int)).length ≤ c6; rw [hlook]; exact hR6.cap_le)) (fun g => ⟨hv.mono hp.1 g.R, hR6.reads g⟩) (fun m7 hk7 => ?_) rfl (by show [slv q6 (n + 1) c6] = [slv q6 (lookS (rs.map (·.l)) n place i j ((2 : Nat) : Int)).length c6]; rw [hlook]))⟩
            have hT7 := hT6.keep hk7
            have hsum : ar .add .i64 (cost (lookS (rs.map (·.l)) n place i j ((2 : Nat) : Int))) (pl cc0 M wn (i + 1) j).1 = cc0 2 i j + AI cc0 M wn (i + 1) j := by
              show ar .add .i64 (cost (lookS (rs.map (·.l)) n place i j ((2 : Nat) : Int))) (AI cc0 M wn (i + 1) j) = _
              rw [hcc' 2 i j, addI (by omega) (by omega)]
            refine .env (by (try simp only [liE, lO, lU, snd, aN]); rfl) (.join (fun us mm => m7 = mm ∧ ∃ x : Bool, us = [.b x] ∧ (x = true ↔ (pickT cc0 M wn i j 1).1 < 0 ∨ cc0 2 i j + AI cc0 M wn (i + 1) j < (pickT cc0 M wn i j 1).1)) (.again rfl ⟨rfl, _, rfl, ?_⟩) ?_)
            · ((try simp only [evE, liE, lO, lU, snd]); (try simp only [cmE])); rw [hsum]
            rintro _ _ _ ⟨rfl, y, rfl, hy⟩
            refine .env (by (try simp only [liE, lO, lU, snd, aN]); rfl) (.join (fun us mm => m7 = mm ∧ us = [U.i (pickT cc0 M wn i j 2).1, U.i (((pickT cc0 M wn i j 2).2 - 1 : Nat) : Int)]) (.ite (fun h6 => .again rfl ⟨rfl, ?_⟩) (fun h6 => .again rfl ⟨rfl, ?_⟩)) ?_)
            · have h6 : y = true := h6
              have e : pickT cc0 M wn i j 2 = (cc0 2 i j + AI cc0 M wn (i + 1) j, 2) := by
                show stepP (pickT cc0 M wn i j 1) 2 (candI cc0 M wn i j 2) = _
                rw [hcn]; unfold stepP; exact if_pos (hy.1 h6)
              rw [e]; (simp only [evE, liE, lO, lU, snd, Sh.uss, Sh.us, atAddr, map_add0, List.append_nil]); rw [hsum]
            · have h6 : y = false := h6
              have e : pickT cc0 M wn i j 2 = pickT cc0 M wn i j 1 := by
                show stepP (pickT cc0 M wn i j 1) 2 (candI cc0 M wn i j 2) = _
                rw [hcn]; exact if_neg fun h => by rw [hy.2 h] at h6; cases h6
              rw [e]; (simp only [evE, liE, lO, lU, snd, Sh.uss, Sh.us, atAddr, map_add0, List.append_nil])
            rintro _ _ _ ⟨rfl, rfl⟩
            exact .env (by (try simp only [liE, lO, lU, snd, aN]); rfl) (.again rfl ⟨rfl, hT7⟩)
        case c3 =>
          ((try simp only [evE, liE, lO, lU, snd] at h4); (try simp only [cmE] at h4))
          obtain rfl : by0 = 2 := by omega
          refine .alloc fun _ => .join (fun us mm => m5 = mm ∧ ∃ x : Bool, us = [.b x] ∧ (x = true ↔ ¬ ((afterS i j ((3 : Nat) : Int)).1 ≤ M ∧ (afterS i j ((3 : Nat) : Int)).2 ≤ wn))) (.again rfl ⟨rfl, _, rfl, ?_⟩) ?_
          · ((try simp only [evE, liE, lO, lU, snd]); (try simp only [cmE])); rw [addI (a := (i : Int)) (b := 0) (by omega) (by omega), add_i64 j (by omega)]; show _ ↔ ¬ (i ≤ M ∧ (j + 1) ≤ wn); omega
          rintro _ _ _ ⟨rfl, x, rfl, hx⟩
          refine .env (by (try simp only [liE, lO, lU, snd, aN]); rfl) (.ite (fun h5 => .again rfl ⟨?_, hT5⟩) (fun h5 => ?_))
          · have h5 : x = true := h5
            have hcn : candI cc0 M wn i j 3 = none := by unfold candI; rw [if_neg (hx.1 h5)]
            show [U.i (pickT cc0 M wn i j 2).1, U.i (((pickT cc0 M wn i j 2).2 - 1 : Nat) : Int)] = [U.i (stepP (pickT cc0 M wn i j 2) 3 (candI cc0 M wn i j 3)).1, U.i (((stepP (pickT cc0 M wn i j 2) 3 (candI cc0 M wn i j 3)).2 - 1 : Nat) : Int)]
            rw [hcn]; rfl
          · have h5 : x = false := h5
            have hop2 : i ≤ M ∧ (j + 1) ≤ wn := by
              by_cases h : i ≤ M ∧ (j + 1) ≤ wn
              · exact h
              · rw [hx.2 h] at h5; cases h5
            have hop : openI M wn i j 3 := ⟨(.inr (.inr rfl)), hop2⟩
            obtain ⟨r, hr, hrv⟩ := hnext i (j + 1) (by omega) hop2.1 hop2.2
            have hcn : candI cc0 M wn i j 3 = some (cc0 3 i j + AI cc0 M wn i (j + 1)) := by unfold candI; exact if_pos hop2
            have hlook : (lookS (rs.map (·.l)) n place i j ((3 : Nat) : Int)).length = n + 1 := lookS_len' hpl hols fun h => by rw [List.length_map, ← hM]; exact (open_lt hop).1 h
            have hok := hokc _ _ _ hop
            have hcb := hv.bound _ hok
            rw [hcc'] at hcb
            have hA1 := AI_nonneg hnn M wn i (j + 1)
            have hA2 := AI_le hBB i (j + 1)
            refine .loadTP0 hT5 i (j + 1) r (pl cc0 M wn i (j + 1)) hr hrv ?_ rfl (by show ar .add .i64 (i : Int) 0 = _; rw [addI (by omega) (by omega), Int.add_zero]) (by rw [hlen5]; rfl) rfl (by show ar .add .i64 (j : Int) 1 = _; exact add_i64 j (by omega)) rfl (by show (0 : Int) + ar .add .i64 (j : Int) 1 * ((2 : Nat) : Int) = _; rw [add_i64 j (by omega)]; omega)
            refine .env (by (try simp only [liE, lO, lU, snd, aN]); rfl) (.callE (c_madeW 3 (.inr (.inr rfl)) rs i n place (j : Int) b0 b1 b2 p pc cp cc l.length hl (by omega) hpl (fun h => by rw [← hM]; exact (open_lt hop).1 h) (by omega) hrl hn0) (fun g => ⟨g.cells (j := 0) rfl rfl rfl, by rw [← hM]; exact g.cells (j := 1) rfl rfl rfl, g.cells (j := 2) rfl rfl rfl, hp.2.2.1.mono g.R⟩) ?_)
            rintro v mq m6 hle6 hqe ⟨q6, c6, rfl, hR6⟩
            have hT6 := hT5.le hle6
            replace hR6 := Row.le hR6 hqe
            refine ⟨[.p q6, .i (n + 1 : Nat), .i (c6 : Nat)], uOk_of rfl, (slv_fresh _ _ _ _ _).symm, .env (by (try simp only [liE, lO, lU, snd, aN]); rfl) (.callvR (hv.run ⟨q6, c6, lookS (rs.map (·.l)) n place i j ((3 : Nat) : Int)⟩ hok (by show (lookS (rs.map (·.l)) n place i j ((3 : Nat) : Int)).length ≤ c6; rw [hlook]; exact hR6.cap_le)) (fun g => ⟨hv.mono hp.1 g.R, hR6.reads g⟩) (fun m7 hk7 => ?_) rfl (by show [slv q6 (n + 1) c6] = [slv q6 (lookS (rs.map (·.l)) n place i j ((3 : Nat) : Int)).length c6]; rw [hlook]))⟩
            have hT7 := hT6.keep hk7
            have hsum : ar .add .i64 (cost (lookS (rs.map (·.l)) n place i j ((3 : Nat) : Int))) (pl cc0 M wn i (j + 1)).1 = cc0 3 i j + AI cc0 M wn i (j + 1) := by
              show ar .add .i64 (cost (lookS (rs.map (·.l)) n place i j ((3 : Nat) : Int))) (AI cc0 M wn i (j + 1)) = _
              rw [hcc' 3 i j, addI (by omega) (by omega)]
            refine .env (by (try simp only [liE, lO, lU, snd, aN]); rfl) (.join (fun us mm => m7 = mm ∧ ∃ x : Bool, us = [.b x] ∧ (x = true ↔ (pickT cc0 M wn i j 2).1 < 0 ∨ cc0 3 i j + AI cc0 M wn i (j + 1) < (pickT cc0 M wn i j 2).1)) (.again rfl ⟨rfl, _, rfl, ?_⟩) ?_)
            · ((try simp only [evE, liE, lO, lU, snd]); (try simp only [cmE])); rw [hsum]
            rintro _ _ _ ⟨rfl, y, rfl, hy⟩
            refine .env (by (try simp only [liE, lO, lU, snd, aN]); rfl) (.join (fun us mm => m7 = mm ∧ us = [U.i (pickT cc0 M wn i j 3).1, U.i (((pickT cc0 M wn i j 3).2 - 1 : Nat) : Int)]) (.ite (fun h6 => .again rfl ⟨rfl, ?_⟩) (fun h6 => .again rfl ⟨rfl, ?_⟩)) ?_)
            · have h6 : y = true := h6
              have e : pickT cc0 M wn i j 3 = (cc0 3 i j + AI cc0 M wn i (j + 1), 3) := by
                show stepP (pickT cc0 M wn i j 2) 3 (candI cc0 M wn i j 3) = _
                rw [hcn]; unfold stepP; exact if_pos (hy.1 h6)
              rw [e]; (simp only [evE, liE, lO, lU, snd, Sh.uss, Sh.us, atAddr, map_add0, List.append_nil]); rw [hsum]
            · have h6 : y = false := h6
              have e : pickT cc0 M wn i j 3 = pickT cc0 M wn i j 2 := by
                show stepP (pickT cc0 M wn i j 2) 3 (candI cc0 M wn i j 3) = _
                rw [hcn]; exact if_neg fun h => by rw [hy.2 h] at h6; cases h6
              rw [e]; (simp only [evE, liE, lO, lU, snd, Sh.uss, Sh.us, atAddr, map_add0, List.append_nil])
            rintro _ _ _ ⟨rfl, rfl⟩
            exact .env (by (try simp only [liE, lO, lU, snd, aN]); rfl) (.again rfl ⟨rfl, hT7⟩)
      · obtain rfl : by0 = 3 := by omega
        refine .join (fun us mm => m5 = mm ∧ us = [.i (pl cc0 M wn i j).1, .i (pl cc0 M wn i j).2]) (.ite (fun h4 => .again rfl ⟨rfl, ?_⟩) (fun h4 => .again rfl ⟨rfl, ?_⟩)) ?_
        · ((try simp only [evE, liE, lO, lU, snd] at h4); (try simp only [cmE] at h4))
          obtain rfl : i = M := by omega
          obtain rfl : j = wn := by omega
          (simp only [evE, liE, lO, lU, snd, Sh.uss, Sh.us, atAddr, map_add0, List.append_nil])
          show _ = [U.i (AI cc0 i j i j), _]
          rw [AI_end]; rfl
        · ((try simp only [evE, liE, lO, lU, snd] at h4); (try simp only [cmE] at h4))
          have hne : ¬ (i = M ∧ j = wn) := by omega
          have hf := pick_fst hnn hil hjl
          rw [if_neg hne] at hf
          (simp only [evE, liE, lO, lU, snd, Sh.uss, Sh.us, atAddr, map_add0, List.append_nil])
          show _ = [U.i (AI cc0 M wn i j), _]
          rw [← hf]; rfl
        rintro _ _ _ ⟨rfl, rfl⟩
        refine .env (by (try simp only [liE, lO, lU, snd, aN]); rfl) (.loadSl ((rs'.set i ⟨some ⟨g8, 0, none⟩, wn + 1, vs⟩).map PD.s) i (M + 1) (some ⟨g8, 0, none⟩) (wn + 1) (wn + 1) (by omega) (by rw [List.getElem?_map, hrow]; show some (slv (some ⟨g8, 0, none⟩) vs.length (wn + 1)) = _; rw [hvl]) (fun g => hT5.out.reads g) (.env (by (try simp only [liE, lO, lU, snd, aN]); rfl) ?_))
        have hin := hT5.inn _ (List.mem_of_getElem? hrow)
        simp only [] at hin
        refine .storeP j (pl cc0 M wn i j) (by omega) hin rfl rfl rfl rfl (by show ((wn + 1 : Nat) : Int) = _; rw [hvl]) (fun m8 g3 hg3 hr3 hs3 => .again rfl ⟨j, by omega, vs.set j (pl cc0 M wn i j), by (simp only [evE, liE, lO, lU, snd, Sh.uss, Sh.us, atAddr, map_add0, List.append_nil]); rw [subI (by omega) (by omega)], by omega, by rw [List.length_set]; exact hvl, ?_, fun y h1 h2 => ?_⟩)
        · have := hT5.setIn (i := i) (by omega) (j := j) (v := pl cc0 M wn i j) (g := g3) (by rw [List.getElem_set_self]; exact hg3) (m' := m8) (by rw [List.getElem_set_self]; exact hr3) hs3
          rw [List.set_set] at this
          simpa using this
        · rcases Nat.lt_or_ge j y with h | h
          · rw [List.getElem?_set_ne (by omega)]; exact hvs y (by omega) h2
          · obtain rfl : y = j := by omega
            rw [List.getElem?_set_self (by omega)]
    · (simp only [evE, liE, lO, lU, snd, Sh.uss, Sh.us, atAddr, map_add0, List.append_nil]); rw [subI (by omega) (by omega)]
    · by_cases e : x = i
      · subst e
        rw [List.getElem?_set_self (by omega), Option.map_some]
        congr 1
        refine List.ext_getElem? fun j => ?_
        rcases Nat.lt_or_ge j (wn + 1) with h | h
        · rw [hvs j (by omega) (by omega), rowP_at _ _ _ _ (by omega)]
        · rw [List.getElem?_eq_none (by show vs.length ≤ j; omega), List.getElem?_eq_none (by unfold rowP; simp; omega)]
      · rw [List.getElem?_set_ne (by omega)]; exact hhi x (by omega) hx2
  · have hrowF : ∀ x y, x ≤ M → y ≤ wn → ∃ r, rs'[x]? = some r ∧ r.v[y]? = some (pl cc0 M wn x y) := fun x y hx hy => by
      have := hhi x (by omega) hx
      cases hr : rs'[x]? with
      | none => rw [hr] at this; cases this
      | some r =>
        rw [hr] at this
        simp only [Option.map_some, Option.some.injEq] at this
        exact ⟨r, rfl, by rw [this]; exact rowP_at _ _ _ _ hy⟩
    refine .env (by (try simp only [liE, lO, lU, snd, aN]); rfl) (.loop (fun z us m' => ∃ (q : Option Addr) (cq : Nat) (rs2 : List IR) (i j s : Nat), us = [.p q, .i rs2.length, .i cq, .i i, .i j] ∧ i ≤ M ∧ j ≤ wn ∧ z = M + wn - (i + j) ∧ rs2.length ≤ i + j ∧ (M - i) + (wn - j) ≤ s ∧ outI cc0 M wn (fun w i j => lookS (rs.map (·.l)) n place i j w) (M + wn) 0 0 = rs2.map (·.l) ++ outI cc0 M wn (fun w i j => lookS (rs.map (·.l)) n place i j w) s i j ∧ TabP m' 112 114 (some ⟨g9, 0, none⟩) (M + 1) rs' ∧ TabR m' q cq rs2) (M + wn)
      ⟨none, 0, [], 0, 0, M + wn, by (simp only [evE, liE, lO, lU, snd, Sh.uss, Sh.us, atAddr, map_add0, List.append_nil]); rfl, Nat.zero_le _, Nat.zero_le _, rfl, Nat.zero_le _, by omega, rfl, hT, .nil _⟩ ?_)
    clear hT
    rintro z _ m5 _ ⟨q, cq, rs2, i, j, s, rfl, hi, hj, rfl, hr2, hs, hout, hT, hTR⟩
    refine .env (by (try simp only [liE, lO, lU, snd, aN]); rfl) (.ite (fun h2 => ?_) (fun h2 => .ret rfl ⟨q, cq, rs2, rfl, ?_, hTR.tab⟩)) <;> ((try simp only [evE, liE, lO, lU, snd] at h2); (try simp only [cmE] at h2))
    · have hne : ¬ (i = M ∧ j = wn) := by omega
      obtain ⟨s, rfl⟩ : ∃ s', s = s' + 1 := ⟨s - 1, by omega⟩
      have hop := way_open hnn hi hj hne
      have hw3 := way_three cc0 M wn i j
      have hsnd := pick_snd hnn hi hj hne
      rw [outI_go _ _ _ _ hne] at hout
      obtain ⟨r, hr, hrv⟩ := hrowF i j hi hj
      have ag := @after_grows i j (wayI cc0 M wn i j)
      have hop2 := hop.2
      have hau : (i : Int) + uW (wayI cc0 M wn i j) = ((afterS i j (wayI cc0 M wn i j)).1 : Nat) ∧ (j : Int) + sW (wayI cc0 M wn i j) = ((afterS i j (wayI cc0 M wn i j)).2 : Nat) := by
        rcases hw3 with e | e | e <;> rw [e]
        · exact ⟨rfl, rfl⟩
        · exact ⟨rfl, Int.add_zero _⟩
        · exact ⟨Int.add_zero _, rfl⟩
      have hub : 0 ≤ uW (wayI cc0 M wn i j) ∧ uW (wayI cc0 M wn i j) ≤ 1 ∧ 0 ≤ sW (wayI cc0 M wn i j) ∧ sW (wayI cc0 M wn i j) ≤ 1 := by
        rcases hw3 with e | e | e <;> rw [e] <;> decide
      have hpl2 : (pl cc0 M wn i j).2 = ((wayI cc0 M wn i j - 1 : Nat) : Int) := by show (((pickI cc0 M wn i j).2 - 1 : Nat) : Int) = _; rw [hsnd]
      have hlook : (lookS (rs.map (·.l)) n place i j ((wayI cc0 M wn i j : Nat) : Int)).length = n + 1 := lookS_len' hpl hols fun h => by rw [List.length_map, ← hM]; exact (open_lt hop).1 h
      have kmade := c_madeW (wayI cc0 M wn i j) hw3 rs i n place (j : Int) b0 b1 b2 p pc cp cc l.length hl (by omega) hpl (fun h => by rw [← hM]; exact (open_lt hop).1 h) (by omega) hrl hn0
      generalize hwd : wayI cc0 M wn i j = w at *
      refine .loadTP1 hT i j r (pl cc0 M wn i j) hr hrv ?_ rfl rfl (by rw [hrl']; rfl) rfl rfl rfl (by show ((0 : Int) + (j : Int) * ((2 : Nat) : Int)) + (1 : Int) * ((1 : Nat) : Int) = _; omega)
      rw [hpl2]
      refine .env (by (try simp only [liE, lO, lU, snd, aN]); rfl) (.stepAt w hw3 rfl rfl (fun g => hp.2.2.2.mono g.R) (.env (by (try simp only [liE, lO, lU, snd, aN]); rfl) (.alloc fun b3 => .callE kmade (fun g => ⟨g.cells (j := 0) rfl rfl rfl, by rw [← hM]; exact g.cells (j := 1) rfl rfl rfl, g.cells (j := 2) rfl rfl rfl, hp.2.2.1.mono g.R⟩) ?_)))
      rintro v mq m6 hle6 hqe ⟨q6, c6, rfl, hR6⟩
      replace hR6 := Row.le hR6 hqe
      have hT6 := hT.le hle6
      have hTR6 := hTR.le hle6
      refine ⟨[.p q6, .i (n + 1 : Nat), .i (c6 : Nat)], uOk_of rfl, (slv_fresh _ _ _ _ _).symm, .env (by (try simp only [liE, lO, lU, snd, aN]); rfl) (.alloc fun b4 => .append (q := q) (cap := cq) (n := rs2.length) (qx := some ⟨b4, 0, none⟩) (kx := 1) (capx := 1) (news := [slv q6 (n + 1) c6]) elT hTR6.out (fun gd => gd.cells (j := 4) rfl rfl rfl) rfl (by simp [slv, Value.oneCell']) (fun h => by cases h) (by simp [maxLen]; omega) (by omega) (fun q' cap' m' hr' hk' hq' => .again rfl ⟨M + wn - ((afterS i j w).1 + (afterS i j w).2), by omega, q', cap', rs2 ++ [⟨q6, c6, lookS (rs.map (·.l)) n place i j (w : Int)⟩], (afterS i j w).1, (afterS i j w).2, s, ?_, hop.2.1, hop.2.2, rfl, ?_, by omega, ?_, ?_, ?_⟩))⟩
      · (simp only [evE, liE, lO, lU, snd, Sh.uss, Sh.us, atAddr, map_add0, List.append_nil]); rw [addI (by omega) (by omega), addI (by omega) (by omega), hau.1, hau.2, List.length_append]; rfl
      · rw [List.length_append]; simp only [List.length_cons, List.length_nil]; omega
      · rw [hout, List.map_append, List.append_assoc]; rfl
      · exact ⟨hT6.out.keepA hTR6.out (by decide) hk', fun r hr => (hT6.inn r hr).keepA hTR6.out (by decide) hk', hT6.apart, hT6.ne⟩
      · refine hTR6.push (r := ⟨q6, c6, lookS (rs.map (·.l)) n place i j (w : Int)⟩) (RowI.of (by rw [hlook]; exact hR6)) ?_ hk'
        show Row m' 29 1 q' cap' (rs2.length + 1) (rs2.map IR.v ++ [slv q6 (lookS (rs.map (·.l)) n place i j (w : Int)).length c6])
        rw [hlook]; exact hr'
    · obtain rfl : i = M := by omega
      obtain rfl : j = wn := by omega
      rw [hout, outI_end, List.append_nil]
end Go.Proofs.YtkhcfbdjmpodbaaDoor
