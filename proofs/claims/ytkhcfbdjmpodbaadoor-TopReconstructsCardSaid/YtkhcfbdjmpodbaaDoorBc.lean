/- edit.Longest and what it takes from check. -/
import Derived.Test.YtkhcfbdjmpodbaaDoorBb
import Derived.Test.YtkhcfbdjmpodbaaDoorBa
set_option linter.unusedSimpArgs false
set_option linter.unusedVariables false
/- edit.Longest and what it takes from check. -/
namespace Go.Sy
open Go
theorem snd_eq {s t : Snd} : ((s.1 : Int) = (t.1 : Int) ∧ (s.2 : Int) = (t.2 : Int)) ↔ s = t := by
  constructor
  · rintro ⟨h1, h2⟩; exact Prod.ext (by omega) (by omega)
  · rintro rfl; exact ⟨rfl, rfl⟩
end Go.Sy
namespace Go.Proofs.YtkhcfbdjmpodbaaDoor
open Go Go.Sy Go.RowKit
end Go.Proofs.YtkhcfbdjmpodbaaDoor
/- The steps of alignments, as edit goes over them. -/
namespace Go.Sy
open Go Go.RowKit
section
variable {P : Program} {c : Cx} {L : List Nat} {ρ : Env} {blks : List Blk} {m : Mem} {R : Value → HW → Prop} {Dn : Nat → List U → HW → Prop} {A : List (List U → HW → Prop)}
theorem DenM.loadS {i : Nat} {off : IT} {k : Tree} (xs : List Value) (j : Nat) (q : Option Addr) (kn cap : Nat) (ho : off.eval ρ = (j : Int)) (hx : xs[j]? = some (slv q kn cap)) (hw : Good c L m → Cells (vw c L ρ blks m) (ρ.ptr i) xs) (hk : DenM P R Dn k L (ρ ++ [.p q, .i kn, .i cap]) c m A) :
    DenM P R Dn (.load i off [.sl] blks k) L ρ c m A := by
  refine .loadC [.p q, .i kn, .i cap] (ρ.ptr i) xs j rfl ho rfl hw (List.getElem?_eq_some_iff.1 hx).1 (fun q' v hv => ?_) hk
  match q', hv with
  | 0, hv =>
    simp only [Sh.freshs, SV.dens] at hv
    rw [slv_fresh] at hv
    simp only [List.getElem?_cons_zero, Option.some.injEq] at hv
    rw [← hv]; exact hx
  | q' + 1, hv => simp [Sh.freshs, SV.dens] at hv
theorem DenM.loadCost {i : Nat} {off : IT} {k : Tree} (xs : List Value) (j : Nat) (q : Option Addr) (kn cap : Nat) (gap : Int) (ho : off.eval ρ = (j : Int)) (hx : xs[j]? = some (slv q kn cap)) (hx' : xs[j + 1]? = some (.int .i64 gap)) (hw : Good c L m → Cells (vw c L ρ blks m) (ρ.ptr i) xs) (hk : DenM P R Dn k L (ρ ++ [.p q, .i kn, .i cap, .i gap]) c m A) :
    DenM P R Dn (.load i off [.sl, .int .i64] blks k) L ρ c m A := by
  refine .loadC [.p q, .i kn, .i cap, .i gap] (ρ.ptr i) xs j rfl ho rfl hw (List.getElem?_eq_some_iff.1 hx).1 (fun q' v hv => ?_) hk
  have h1 : (Sh.sl.fresh ρ.length).1.den L (ρ ++ [.p q, .i kn, .i cap, .i gap]) = slv q kn cap := by
    simp only [Sh.fresh, SV.den, IT.eval, atAddr, slv]
    have e0 := getElem_env ρ [.p q, .i kn, .i cap, .i gap] 0
    have e1 := getElem_env ρ [.p q, .i kn, .i cap, .i gap] 1
    have e2 := getElem_env ρ [.p q, .i kn, .i cap, .i gap] 2
    simp only [Env.ptr, Env.int, Nat.add_zero] at *
    rw [e0, e1, e2]
    cases q <;> simp [addr_zero]
  have h2 : (ρ ++ [.p q, .i kn, .i cap, .i gap])[ρ.length + 3]? = some (U.i gap) := getElem_env ρ _ 3
  match q', hv with
  | 0, hv =>
    simp only [Sh.freshs, SV.dens] at hv
    rw [h1] at hv
    simp only [List.getElem?_cons_zero, Option.some.injEq] at hv
    rw [← hv]; exact hx
  | 1, hv =>
    simp only [Sh.freshs, Sh.fresh, SV.dens, SV.den, IT.eval, Env.int, List.getElem?_cons_succ, List.getElem?_cons_zero, Option.some.injEq] at hv
    rw [h2] at hv
    rw [← hv]; exact hx'
  | q' + 2, hv => simp [Sh.freshs, SV.dens] at hv
end
theorem distC_pos {x y : Snd} {ws : List Int} {gap : Int} (hc : checkC ws gap = 0) : 0 ≤ (distC x y ws gap).1 ∧ (distC x y ws gap).1 ≤ 1073741824 * 24 := by
  obtain ⟨h1, _, _, h4⟩ := checkC_zero hc
  unfold distC
  split
  · simp
  · rw [if_neg (by simp [hc])]
    have := sumW_bound (diffS x y) ws h4
    simp only
    omega
end Go.Sy
namespace Go.Proofs.YtkhcfbdjmpodbaaDoor
open Go Go.Sy Go.RowKit
end Go.Proofs.YtkhcfbdjmpodbaaDoor
/- The table of smallest costs, as edit makes it. -/
namespace Go.Sy
open Go Go.RowKit
section
variable {P : Program} {c : Cx} {L : List Nat} {ρ : Env} {blks : List Blk} {m : Mem} {R : Value → HW → Prop} {Dn : Nat → List U → HW → Prop} {A : List (List U → HW → Prop)}
end
end Go.Sy
namespace Go.Proofs.YtkhcfbdjmpodbaaDoor
open Go Go.Sy Go.RowKit
end Go.Proofs.YtkhcfbdjmpodbaaDoor
/- The cheapest steps, as edit goes over them; edit.Dist. -/
namespace Go.Sy
open Go Go.RowKit
end Go.Sy
namespace Go.Proofs.YtkhcfbdjmpodbaaDoor
open Go Go.Sy Go.RowKit
end Go.Proofs.YtkhcfbdjmpodbaaDoor
/- edit.Score, edit.Near and edit.Ratio. -/
namespace Go.Sy
open Go Go.RowKit
/-! Pairs of numbers in cells. -/
def pcells (l : List (Int × Int)) : List Value := l.flatMap fun x => [.int .i64 x.1, .int .i64 x.2]
theorem pcells_len (l : List (Int × Int)) : (pcells l).length = l.length * 2 := by
  induction l with
  | nil => rfl
  | cons s w ih => simp only [pcells, List.flatMap_cons, List.length_append, List.length_cons] at *; rw [ih]; simp; omega
theorem pcells_at (w : List (Int × Int)) (j : Nat) (h : j < w.length) : (pcells w)[j * 2]? = some (.int .i64 w[j].1) ∧ (pcells w)[j * 2 + 1]? = some (.int .i64 w[j].2) := by
  induction w generalizing j with
  | nil => simp at h
  | cons s w ih =>
    cases j with
    | zero => exact ⟨rfl, rfl⟩
    | succ j =>
      have := ih j (by simpa using h)
      simp only [pcells, List.flatMap_cons, List.cons_append, List.nil_append] at *
      rw [show (j + 1) * 2 = j * 2 + 2 by omega, show j * 2 + 2 + 1 = (j * 2 + 1) + 2 by omega]
      simpa using this
section
variable {P : Program} {c : Cx} {L : List Nat} {ρ : Env} {blks : List Blk} {m : Mem} {R : Value → HW → Prop} {Dn : Nat → List U → HW → Prop} {A : List (List U → HW → Prop)}
end
def dC (ws : List Int) (gap : Int) : Snd → Snd → Int := fun x y => (distC x y ws gap).1
section
variable {d : Snd → Snd → Int} {g : Int} {a b : List Snd} {i j : Nat} {x : Int × Int}
end
/-! The nearest. -/
theorem checkL_zero {l : List (List Snd)} (h : checkL l = 0) : ∀ x ∈ l, checkW x = 0 := by
  induction l with
  | nil => simp
  | cons w l ih =>
    unfold checkL at h
    split at h
    · omega
    · intro x hx
      rcases List.mem_cons.1 hx with rfl | hx
      · omega
      · exact ih h x hx
/-! Lowest terms. -/
def gcdI (n d : Int) : Int := (Nat.gcd n.toNat d.toNat : Nat)
def lowest (n d : Int) : Int × Int := (n.tdiv (gcdI n d), d.tdiv (gcdI n d))
where distE0 (ws : List Int) (gap : Int) (a b : List Snd) : Int × Int := if checkE ws gap [a, b] ≠ 0 then (0, checkE ws gap [a, b]) else (rst (dC ws gap) gap a b, 0)
end Go.Sy
namespace Go.Proofs.YtkhcfbdjmpodbaaDoor
open Go Go.Sy Go.RowKit
end Go.Proofs.YtkhcfbdjmpodbaaDoor
/- edit.Ways. -/
namespace Go.Sy
open Go Go.RowKit
section
variable {n m : Nat} {R : Nat → Nat → Int}
end
end Go.Sy
namespace Go.Proofs.YtkhcfbdjmpodbaaDoor
open Go Go.Sy Go.RowKit
end Go.Proofs.YtkhcfbdjmpodbaaDoor
/- edit.Align. -/
namespace Go.Sy
open Go Go.RowKit
end Go.Sy
namespace Go.Proofs.YtkhcfbdjmpodbaaDoor
open Go Go.Sy Go.RowKit
end Go.Proofs.YtkhcfbdjmpodbaaDoor
/- The small functions of the laws of chapter 17; 'works'. -/
namespace Go.Sy
open Go Go.RowKit
theorem Good.cells {c : Cx} {L : List Nat} {ρ : Env} {blks : List Blk} {m : Mem} (g : Good c L m) {j b o : Nat} {k : Blk} {xs : List Value} (h1 : L[j]? = some b) (h2 : blks[j]? = some k) (h : ((SV.dens L ρ k.cells).drop o).take xs.length = xs) : Cells (vw c L ρ blks m) (some ⟨b, o, none⟩) xs := fun i x hx => by
  refine ⟨b, o, rfl, ?_⟩
  rw [g.at h1 h2]
  rw [← h, List.getElem?_take] at hx
  split at hx
  · rw [List.getElem?_drop] at hx; exact hx
  · cases hx
theorem Mem.join_new {m mq : Mem} {b : Nat} (h : m b = none) : m.join mq b = mq b := by unfold Mem.join; rw [h]
theorem cells_of_mem {c : Cx} {L : List Nat} {ρ : Env} {blks : List Blk} {m : Mem} (g : Good c L m) {b : Nat} {xs : List Value} {e : TypeId} (h : m b = some (.cells xs.toArray e (0, 0))) : Cells (vw c L ρ blks m) (some ⟨b, 0, none⟩) xs := fun i x hx => ⟨b, 0, rfl, by rw [vw_mem g h, Nat.zero_add]; simpa using hx⟩
theorem take_all {α : Type} [DecidableEq α] {a b : List α} (hl : a.length = b.length) (h : a.take a.length = b.take a.length) : a = b := by
  rw [List.take_of_length_le (Nat.le_refl _), List.take_of_length_le (by omega)] at h; exact h
end Go.Sy
namespace Go.Proofs.YtkhcfbdjmpodbaaDoor
open Go Go.Sy Go.RowKit
theorem take_succ_eq {α : Type} {a b : List α} {j : Nat} (ha : j < a.length) (hb : j < b.length) (h : a.take j = b.take j) : a.take (j + 1) = b.take (j + 1) ↔ a[j] = b[j] := by
  rw [List.take_succ_eq_append_getElem ha, List.take_succ_eq_append_getElem hb, h, List.append_right_inj]
  simp
end Go.Proofs.YtkhcfbdjmpodbaaDoor
/- 'works' of the laws of chapter 01 answers true; 'Made'. -/
namespace Go.Proofs.YtkhcfbdjmpodbaaDoor
open Go Go.Sy Go.RowKit
end Go.Proofs.YtkhcfbdjmpodbaaDoor
/- The words and costs that the laws of chapter 17 make; distances of valid sounds as a metric. -/
namespace Go.Sy
open Go Go.RowKit
theorem Row.joinR {m mq : Mem} {e : TypeId} {size : Nat} {q : Option Addr} {cap n : Nat} {xs : List Value} (h : Row mq e size q cap n xs) (hf : ∀ b, mq b ≠ none → m b = none) : Row (m.join mq) e size q cap n xs := h.keep fun g _ hg' => Mem.join_new (hf g hg')
/-! Distances without a look at what is valid. -/
def d0 (ws : List Int) : Snd → Snd → Int := fun x y => sumW ((x.1 ^^^ y.1) ||| (x.2 ^^^ y.2)) ws
theorem sumW_nonneg (n : Nat) (ws : List Int) (h : ∀ w ∈ ws, 0 ≤ w) : 0 ≤ sumW n ws := by
  induction ws generalizing n with
  | nil => simp [sumW]
  | cons w ws ih =>
    have := h w (by simp)
    have := ih (n / 2) fun x hx => h x (by simp [hx])
    simp only [sumW]; split <;> omega
theorem sumW_bit (n : Nat) (ws : List Int) (hw : ∀ w ∈ ws, 0 ≤ w) (i : Nat) (hi : n.testBit i = true) (w : Int) (hl : ws[i]? = some w) : w ≤ sumW n ws := by
  induction ws generalizing n i with
  | nil => simp at hl
  | cons x ws ih =>
    have h0 := hw x (by simp)
    have h1 := sumW_nonneg (n / 2) ws fun y hy => hw y (by simp [hy])
    cases i with
    | zero =>
      simp at hl; subst hl
      simp only [sumW]; rw [if_pos hi]; omega
    | succ i =>
      rw [Nat.testBit_succ] at hi
      have := ih (n / 2) (fun y hy => hw y (by simp [hy])) i hi (by simpa using hl)
      simp only [sumW]; split <;> omega
structure Vok (a : List Snd) : Prop where
  len : a.length ≤ 32
  val : ∀ s ∈ a, valid s = true
/-! Words and costs made of small numbers. -/
end Go.Sy
namespace Go.Proofs.YtkhcfbdjmpodbaaDoor
open Go Go.Sy Go.RowKit
end Go.Proofs.YtkhcfbdjmpodbaaDoor
/- EditMetric: what the law's code answers. -/
namespace Go.Sy
open Go Go.RowKit
theorem flatMap_one {α β : Type} (f : α → β) (l : List α) : l.flatMap (fun x => [f x]) = l.map f := by
  induction l with
  | nil => rfl
  | cons x l ih => simp [ih]
end Go.Sy
namespace Go.Proofs.YtkhcfbdjmpodbaaDoor
open Go Go.Sy Go.RowKit
end Go.Proofs.YtkhcfbdjmpodbaaDoor
/- EditSubsequences: what the law's code answers. -/
namespace Go.Sy
open Go Go.RowKit
theorem Row.apart {m : Mem} {e e' : TypeId} {s s' : Nat} {q q' : Option Addr} {cap cap' n n' : Nat} {xs xs' : List Value} (h : Row m e s q cap n xs) (h' : Row m e' s' q' cap' n' xs') (he : e ≠ e') (g : Nat) (hg : q = some ⟨g, 0, none⟩) : q' ≠ some ⟨g, 0, none⟩ := fun hg' => by
  rcases h.2 with ⟨h1, _⟩ | ⟨g1, c1, h1, h2, _⟩
  · rw [h1] at hg; cases hg
  · rcases h'.2 with ⟨k1, _⟩ | ⟨g2, c2, k1, k2, _⟩
    · rw [k1] at hg'; cases hg'
    · rw [h1] at hg; cases hg
      rw [k1] at hg'; cases hg'
      rw [h2] at k2
      simp only [Option.some.injEq, Obj.cells.injEq] at k2
      exact he k2.2.1
theorem Row.keepA {m m' : Mem} {e e' : TypeId} {s s' : Nat} {q q' : Option Addr} {cap cap' n n' kx : Nat} {xs xs' : List Value} (h : Row m e s q cap n xs) (h' : Row m e' s' q' cap' n' xs') (he : e ≠ e') (hk : ∀ b, ((∃ o, q' = some ⟨b, o, none⟩) → cap' < n' + kx) → m b ≠ none → m' b = m b) : Row m' e s q cap n xs :=
  h.keep fun g hg hg' => hk g (fun ⟨o, ho⟩ => by
    exfalso
    rcases h'.2 with ⟨k1, _⟩ | ⟨g2, _, k1, _⟩
    · rw [k1] at ho; cases ho
    · rw [k1] at ho; cases ho
      exact h.apart h' he g hg k1) hg'
end Go.Sy
namespace Go.Proofs.YtkhcfbdjmpodbaaDoor
open Go Go.Sy Go.RowKit
end Go.Proofs.YtkhcfbdjmpodbaaDoor
/- A table whose rows are slices of their own: the outer row of slices, and for each an inner row in a block of its own. -/
namespace Go.Sy
open Go Go.RowKit
structure RD where
  p : Option Addr
  cap : Nat
  v : List Int
def RD.s (r : RD) : Value := slv r.p r.v.length r.cap
structure Tab (m : Mem) (eo ei : TypeId) (kd : IntKind) (q : Option Addr) (cap : Nat) (rs : List RD) : Prop where
  out : Row m eo 1 q cap rs.length (rs.map RD.s)
  inn : ∀ r ∈ rs, Row m ei 1 r.p r.cap r.v.length (r.v.map (.int kd))
  apart : ∀ (i j : Nat) (hi : i < rs.length) (hj : j < rs.length) (g : Nat), i ≠ j → rs[i].p = some ⟨g, 0, none⟩ → rs[j].p ≠ some ⟨g, 0, none⟩
  ne : eo ≠ ei
theorem Tab.keep {m m' : Mem} {eo ei : TypeId} {kd : IntKind} {q : Option Addr} {cap : Nat} {rs : List RD} (h : Tab m eo ei kd q cap rs) (hk : ∀ b, m b ≠ none → m' b = m b) : Tab m' eo ei kd q cap rs :=
  ⟨h.out.keep fun g _ hg => hk g hg, fun r hr => (h.inn r hr).keep fun g _ hg => hk g hg, h.apart, h.ne⟩
theorem Tab.setRow {m m' : Mem} {eo ei : TypeId} {kd : IntKind} {q : Option Addr} {cap : Nat} {rs : List RD} (h : Tab m eo ei kd q cap rs) {j : Nat} (hj : j < rs.length) {r : RD} {g : Nat} (hq : q = some ⟨g, 0, none⟩) (ho : Row m' eo 1 q cap rs.length ((rs.map RD.s).set j r.s)) (hs : ∀ b, b ≠ g → m' b = m b)
    (hr : Row m ei 1 r.p r.cap r.v.length (r.v.map (.int kd))) (hnew : ∀ (i : Nat) (hi : i < rs.length) (b : Nat), rs[i].p = some ⟨b, 0, none⟩ → r.p ≠ some ⟨b, 0, none⟩) : Tab m' eo ei kd q cap (rs.set j r) where
  out := by rw [List.length_set, List.map_set]; exact ho
  inn x hx := by
    have hkeep : ∀ {y : RD}, Row m ei 1 y.p y.cap y.v.length (y.v.map (.int kd)) → Row m' ei 1 y.p y.cap y.v.length (y.v.map (.int kd)) := fun {y} hy => hy.keep fun b hb _ => hs b fun e => hy.apart h.out (fun e' => h.ne e'.symm) b hb (by rw [hq, e])
    rcases List.mem_or_eq_of_mem_set hx with hx | rfl
    · exact hkeep (h.inn x hx)
    · exact hkeep hr
  apart i k hi hk b hne hp := by
    rw [List.length_set] at hi hk
    rw [List.getElem_set] at hp ⊢
    split at hp
    · split
      · omega
      · intro h2; exact hnew k hk b h2 hp
    · split
      · exact hnew i hi b hp
      · exact h.apart i k hi hk b hne hp
  ne := h.ne
theorem Tab.setIn {m m' : Mem} {eo ei : TypeId} {kd : IntKind} {q : Option Addr} {cap : Nat} {rs : List RD} (h : Tab m eo ei kd q cap rs) {i : Nat} (hi : i < rs.length) {j : Nat} {v : Int} {g : Nat} (hg : rs[i].p = some ⟨g, 0, none⟩) (hr : Row m' ei 1 rs[i].p rs[i].cap rs[i].v.length ((rs[i].v.map (.int kd)).set j (.int kd v))) (hs : ∀ b, b ≠ g → m' b = m b) :
    Tab m' eo ei kd q cap (rs.set i ⟨rs[i].p, rs[i].cap, rs[i].v.set j v⟩) where
  out := by
    have e : (rs.set i ⟨rs[i].p, rs[i].cap, rs[i].v.set j v⟩).map RD.s = rs.map RD.s := by
      rw [List.map_set]
      have : RD.s ⟨rs[i].p, rs[i].cap, rs[i].v.set j v⟩ = (rs.map RD.s)[i]'(by simpa using hi) := by simp [RD.s]
      rw [this, List.set_getElem_self]
    rw [List.length_set, e]
    exact h.out.keep fun b hb _ => hs b fun e' => h.out.apart (h.inn _ (List.getElem_mem hi)) h.ne b hb (by rw [hg, e'])
  inn x hx := by
    obtain ⟨k, hk, rfl⟩ := List.mem_iff_getElem.1 hx
    rw [List.length_set] at hk
    rw [List.getElem_set]
    split
    · rw [List.length_set, List.map_set]; exact hr
    · rename_i hne
      exact (h.inn _ (List.getElem_mem hk)).keep fun b hb _ => hs b fun e' => h.apart i k hi hk g hne hg (by rw [hb, e'])
  apart a b ha hb c hne hp := by
    rw [List.length_set] at ha hb
    have hpp : ∀ (k : Nat) (hk : k < rs.length) (hk' : k < (rs.set i ⟨rs[i].p, rs[i].cap, rs[i].v.set j v⟩).length), ((rs.set i ⟨rs[i].p, rs[i].cap, rs[i].v.set j v⟩)[k]).p = rs[k].p := fun k hk hk' => by
      rw [List.getElem_set]
      split
      · rename_i e; subst e; rfl
      · rfl
    rw [hpp a ha] at hp
    rw [hpp b hb]
    exact h.apart a b ha hb c hne hp
  ne := h.ne
theorem DenM.loadRow {P : Program} {c : Cx} {L : List Nat} {ρ : Env} {blks : List Blk} {m : Mem} {R : Value → HW → Prop} {Dn : Nat → List U → HW → Prop} {A : List (List U → HW → Prop)} {i : Nat} {I len : IT} {k : Tree} {eo ei : TypeId} {kd : IntKind} {q : Option Addr} {cap : Nat} {rs : List RD}
    (hT : Tab m eo ei kd q cap rs) (x : Nat) (r : RD) (hr : rs[x]? = some r) (hk : DenM P R Dn k L (ρ ++ [.p r.p, .i r.v.length, .i r.cap]) c m A) (hp : ρ.ptr i = q) (hI : I.eval ρ = (x : Int)) (hn : len.eval ρ = (rs.length : Int)) :
    DenM P R Dn (.chk (.pick (.cmp .geq I (.lit 0)) (.pick (.cmp .lss I len) (.some i) (.lit false)) (.lit false)) (.load i (.off I 1 (.lit 0)) [.sl] blks k)) L ρ c m A := by
  obtain ⟨hx, rfl⟩ := List.getElem?_eq_some_iff.1 hr
  exact .loadSl (rs.map RD.s) x rs.length rs[x].p rs[x].v.length rs[x].cap hx (by simp [hx, RD.s]) (fun g => by rw [hp]; exact hT.out.reads g) hk hI hn
theorem DenM.storeT {P : Program} {c : Cx} {L : List Nat} {ρ : Env} {blks : List Blk} {m : Mem} {R : Value → HW → Prop} {Dn : Nat → List U → HW → Prop} {A : List (List U → HW → Prop)} {i : Nat} {J len : IT} {x : SV} {k : Tree} {eo ei : TypeId} {kd : IntKind} {q : Option Addr} {cap : Nat} {rs : List RD}
    (hT : Tab m eo ei kd q cap rs) (r y : Nat) (rd : RD) (v : Int) (hr : rs[r]? = some rd) (hy : y < rd.v.length) (hk : ∀ m', Tab m' eo ei kd q cap (rs.set r ⟨rd.p, rd.cap, rd.v.set y v⟩) → (∀ b, rd.p ≠ some ⟨b, 0, none⟩ → m' b = m b) → DenM P R Dn k L ρ c m' A)
    (hp : ρ.ptr i = rd.p) (hJ : J.eval ρ = (y : Int)) (hn : len.eval ρ = (rd.v.length : Int)) (hx : x.den L ρ = .int kd v) :
    DenM P R Dn (.chk (.pick (.cmp .geq J (.lit 0)) (.pick (.cmp .lss J len) (.some i) (.lit false)) (.lit false)) (.store false i (.off J 1 (.lit 0)) [x] blks k)) L ρ c m A := by
  obtain ⟨hx', rfl⟩ := List.getElem?_eq_some_iff.1 hr
  refine .storeR y hy (hT.inn _ (List.getElem_mem hx')) hp hJ hn fun m' g hg hr' hs => hk m' ?_ fun b hb => hs b fun e => hb (by rw [hg, e])
  rw [hx] at hr'
  exact hT.setIn hx' hg hr' hs
end Go.Sy
