/- A table whose rows are slices of their own: the outer row of slices, and for each an inner row in a block of its own. -/
import Derived.Test.YtedfogpnmpmggaaDoorBa
import Derived.Test.YtedfogpnmpmggaaDoorHb
set_option linter.unusedSimpArgs false
set_option linter.unusedVariables false
namespace Go.Sy
open Go Go.RowKit
/-- A row of a table: where it lies, what it holds. -/
structure RD where
  p : Option Addr
  cap : Nat
  v : List Int
def RD.s (r : RD) : Value := slv r.p r.v.length r.cap
structure Tab (m : Mem) (eo ei : TypeId) (kd : IntKind) (q : Option Addr) (cap : Nat) (rs : List RD) : Prop where
  out : Row m eo 1 q cap rs.length (rs.map RD.s)
  inn : ∀ r ∈ rs, Row m ei 1 r.p r.cap r.v.length (r.v.map (.int kd))
  apart : ∀ (i j : Nat) (hi : i < rs.length) (hj : j < rs.length) (g : Nat), i ≠ j → rs[i].p = some ⟨g, 0, none⟩ → rs[j].p ≠ some ⟨g, 0, none⟩
  ne : eo ≠ ei
theorem Tab.keep {m m' : Mem} {eo ei : TypeId} {kd : IntKind} {q : Option Addr} {cap : Nat} {rs : List RD} (h : Tab m eo ei kd q cap rs) (hk : ∀ b, m b ≠ none → m' b = m b) : Tab m' eo ei kd q cap rs :=
  ⟨h.out.keep fun g _ hg => hk g hg, fun r hr => (h.inn r hr).keep fun g _ hg => hk g hg, h.apart, h.ne⟩
/-- A store into the outer row: a new row, in a block that no other has. -/
theorem Tab.setRow {m m' : Mem} {eo ei : TypeId} {kd : IntKind} {q : Option Addr} {cap : Nat} {rs : List RD} (h : Tab m eo ei kd q cap rs) {j : Nat} (hj : j < rs.length) {r : RD} {g : Nat} (hq : q = some ⟨g, 0, none⟩) (ho : Row m' eo 1 q cap rs.length ((rs.map RD.s).set j r.s)) (hs : ∀ b, b ≠ g → m' b = m b)
    (hr : Row m ei 1 r.p r.cap r.v.length (r.v.map (.int kd))) (hnew : ∀ (i : Nat) (hi : i < rs.length) (b : Nat), rs[i].p = some ⟨b, 0, none⟩ → r.p ≠ some ⟨b, 0, none⟩) : Tab m' eo ei kd q cap (rs.set j r) where
  out := by rw [List.length_set, List.map_set]; exact ho
  inn x hx := by
    have hkeep : ∀ {y : RD}, Row m ei 1 y.p y.cap y.v.length (y.v.map (.int kd)) → Row m' ei 1 y.p y.cap y.v.length (y.v.map (.int kd)) := fun {y} hy => hy.keep fun b hb _ => hs b fun e => hy.apart h.out (fun e' => h.ne e'.symm) b hb (by rw [hq, e])
    rcases List.mem_or_eq_of_mem_set hx with hx | rfl
    · exact hkeep (h.inn x hx)
    · exact hkeep hr
  apart i k hi hk b hne hp := by
    rw [List.length_set] at hi hk
    rw [List.getElem_set] at hp ⊢
    split at hp
    · split
      · omega
      · intro h2; exact hnew k hk b h2 hp
    · split
      · exact hnew i hi b hp
      · exact h.apart i k hi hk b hne hp
  ne := h.ne
/-- A store into an inner row. -/
theorem Tab.setIn {m m' : Mem} {eo ei : TypeId} {kd : IntKind} {q : Option Addr} {cap : Nat} {rs : List RD} (h : Tab m eo ei kd q cap rs) {i : Nat} (hi : i < rs.length) {j : Nat} {v : Int} {g : Nat} (hg : rs[i].p = some ⟨g, 0, none⟩) (hr : Row m' ei 1 rs[i].p rs[i].cap rs[i].v.length ((rs[i].v.map (.int kd)).set j (.int kd v))) (hs : ∀ b, b ≠ g → m' b = m b) :
    Tab m' eo ei kd q cap (rs.set i ⟨rs[i].p, rs[i].cap, rs[i].v.set j v⟩) where
  out := by
    have e : (rs.set i ⟨rs[i].p, rs[i].cap, rs[i].v.set j v⟩).map RD.s = rs.map RD.s := by
      rw [List.map_set]
      have : RD.s ⟨rs[i].p, rs[i].cap, rs[i].v.set j v⟩ = (rs.map RD.s)[i]'(by simpa using hi) := by simp [RD.s]
      rw [this, List.set_getElem_self]
    rw [List.length_set, e]
    exact h.out.keep fun b hb _ => hs b fun e' => h.out.apart (h.inn _ (List.getElem_mem hi)) h.ne b hb (by rw [hg, e'])
  inn x hx := by
    obtain ⟨k, hk, rfl⟩ := List.mem_iff_getElem.1 hx
    rw [List.length_set] at hk
    rw [List.getElem_set]
    split
    · rw [List.length_set, List.map_set]; exact hr
    · rename_i hne
      exact (h.inn _ (List.getElem_mem hk)).keep fun b hb _ => hs b fun e' => h.apart i k hi hk g hne hg (by rw [hb, e'])
  apart a b ha hb c hne hp := by
    rw [List.length_set] at ha hb
    have hpp : ∀ (k : Nat) (hk : k < rs.length) (hk' : k < (rs.set i ⟨rs[i].p, rs[i].cap, rs[i].v.set j v⟩).length), ((rs.set i ⟨rs[i].p, rs[i].cap, rs[i].v.set j v⟩)[k]).p = rs[k].p := fun k hk hk' => by
      rw [List.getElem_set]
      split
      · rename_i e; subst e; rfl
      · rfl
    rw [hpp a ha] at hp
    rw [hpp b hb]
    exact h.apart a b ha hb c hne hp
  ne := h.ne
/-- A load of an element of a table. -/
theorem DenM.loadT {P : Program} {c : Cx} {L : List Nat} {ρ : Env} {blks bl2 : List Blk} {m : Mem} {R : Value → HW → Prop} {Dn : Nat → List U → HW → Prop} {A : List (List U → HW → Prop)} {i i2 : Nat} {I J len len2 : IT} {k : Tree} {eo ei : TypeId} {kd : IntKind} {q : Option Addr} {cap : Nat} {rs : List RD}
    (hT : Tab m eo ei kd q cap rs) (x y : Nat) (r : RD) (v : Int) (hr : rs[x]? = some r) (hv : r.v[y]? = some v) (hk : DenM P R Dn k L (ρ ++ [.p r.p, .i r.v.length, .i r.cap] ++ [.i v]) c m A)
    (hp : ρ.ptr i = q) (hI : I.eval ρ = (x : Int)) (hn : len.eval ρ = (rs.length : Int)) (h2 : Env.ptr (ρ ++ [.p r.p, .i r.v.length, .i r.cap]) i2 = r.p) (hJ : J.eval (ρ ++ [.p r.p, .i r.v.length, .i r.cap]) = (y : Int)) (hl2 : len2.eval (ρ ++ [.p r.p, .i r.v.length, .i r.cap]) = (r.v.length : Int)) :
    DenM P R Dn (.chk (.pick (.cmp .geq I (.lit 0)) (.pick (.cmp .lss I len) (.some i) (.lit false)) (.lit false)) (.load i (.off I 1 (.lit 0)) [.sl] blks
      (.chk (.pick (.cmp .geq J (.lit 0)) (.pick (.cmp .lss J len2) (.some i2) (.lit false)) (.lit false)) (.load i2 (.off J 1 (.lit 0)) [(.int kd)] bl2 k)))) L ρ c m A := by
  obtain ⟨hx, rfl⟩ := List.getElem?_eq_some_iff.1 hr
  obtain ⟨hy, rfl⟩ := List.getElem?_eq_some_iff.1 hv
  refine .loadSl (rs.map RD.s) x rs.length rs[x].p rs[x].v.length rs[x].cap hx (by simp [hx, RD.s]) (fun g => by rw [hp]; exact hT.out.reads g) (.elem1 (.int kd rs[x].v[y]) (rs[x].v.map (.int kd)) y rs[x].v.length hJ hl2 hy (fun g => by rw [h2]; exact (hT.inn _ (List.getElem_mem hx)).reads g) (by simp [hy]) hk rfl ?_) hI hn
  simp only [Sh.freshs, Sh.fresh, SV.dens, SV.den, IT.eval, letU, int_at]
/-- A load of a row of a table. -/
theorem DenM.loadRow {P : Program} {c : Cx} {L : List Nat} {ρ : Env} {blks : List Blk} {m : Mem} {R : Value → HW → Prop} {Dn : Nat → List U → HW → Prop} {A : List (List U → HW → Prop)} {i : Nat} {I len : IT} {k : Tree} {eo ei : TypeId} {kd : IntKind} {q : Option Addr} {cap : Nat} {rs : List RD}
    (hT : Tab m eo ei kd q cap rs) (x : Nat) (r : RD) (hr : rs[x]? = some r) (hk : DenM P R Dn k L (ρ ++ [.p r.p, .i r.v.length, .i r.cap]) c m A) (hp : ρ.ptr i = q) (hI : I.eval ρ = (x : Int)) (hn : len.eval ρ = (rs.length : Int)) :
    DenM P R Dn (.chk (.pick (.cmp .geq I (.lit 0)) (.pick (.cmp .lss I len) (.some i) (.lit false)) (.lit false)) (.load i (.off I 1 (.lit 0)) [.sl] blks k)) L ρ c m A := by
  obtain ⟨hx, rfl⟩ := List.getElem?_eq_some_iff.1 hr
  exact .loadSl (rs.map RD.s) x rs.length rs[x].p rs[x].v.length rs[x].cap hx (by simp [hx, RD.s]) (fun g => by rw [hp]; exact hT.out.reads g) hk hI hn
/-- A store into a row of a table. -/
theorem DenM.storeT {P : Program} {c : Cx} {L : List Nat} {ρ : Env} {blks : List Blk} {m : Mem} {R : Value → HW → Prop} {Dn : Nat → List U → HW → Prop} {A : List (List U → HW → Prop)} {i : Nat} {J len : IT} {x : SV} {k : Tree} {eo ei : TypeId} {kd : IntKind} {q : Option Addr} {cap : Nat} {rs : List RD}
    (hT : Tab m eo ei kd q cap rs) (r y : Nat) (rd : RD) (v : Int) (hr : rs[r]? = some rd) (hy : y < rd.v.length) (hk : ∀ m', Tab m' eo ei kd q cap (rs.set r ⟨rd.p, rd.cap, rd.v.set y v⟩) → (∀ b, rd.p ≠ some ⟨b, 0, none⟩ → m' b = m b) → DenM P R Dn k L ρ c m' A)
    (hp : ρ.ptr i = rd.p) (hJ : J.eval ρ = (y : Int)) (hn : len.eval ρ = (rd.v.length : Int)) (hx : x.den L ρ = .int kd v) :
    DenM P R Dn (.chk (.pick (.cmp .geq J (.lit 0)) (.pick (.cmp .lss J len) (.some i) (.lit false)) (.lit false)) (.store false i (.off J 1 (.lit 0)) [x] blks k)) L ρ c m A := by
  obtain ⟨hx', rfl⟩ := List.getElem?_eq_some_iff.1 hr
  refine .storeR y hy (hT.inn _ (List.getElem_mem hx')) hp hJ hn fun m' g hg hr' hs => hk m' ?_ fun b hb => hs b fun e => hb (by rw [hg, e])
  rw [hx] at hr'
  exact hT.setIn hx' hg hr' hs
end Go.Sy
