/- append beside a read of another block. -/
import Derived.Test.YthabfpagilbplaaDoorBj
import Derived.Test.YthabfpagilbplaaDoorTcSets
import Derived.Test.YthabfpagilbplaaDoorTj
import Derived.Test.YthabfpagilbplaaDoorTcClasses
set_option linter.unusedSimpArgs false
set_option linter.unusedVariables false
/- append beside a read of another block. -/
namespace Go.Sy
open Go Go.RowKit
section
variable {P : Program} {c : Cx} {L : List Nat} {ρ : Env} {blks : List Blk} {m : Mem} {R : Value → HW → Prop} {Dn : Nat → List U → HW → Prop} {A : List (List U → HW → Prop)}
theorem run_load1 {lt lty : TypeId} {d : TypeDesc} {xo : Operand} {w : World} {b o : Nat} {u : Value} (hu : P.underlying lt = some d) (h1 : sizeT P lt = 1) (ha : isAggT P lt = false) (hc : w.cell? ⟨b, o, none⟩ = some u) :
    (XOp.sem (.load lt xo) lty [.pointer (some ⟨b, o, none⟩)]).run P w = .ok (.value u) w := by
  have := run_loadVar' (P := P) (t := lt) (w := w) (b := b) (o := o) (vs := [u]) hu (by rw [h1]; rfl) (fun _ => rfl) (fun j v hj => by
    match j, hj with
    | 0, hj => cases hj; exact hc)
  rw [ha] at this
  show (do pure (Next.value (← Instr.loadAt lt (.pointer (some ⟨b, o, none⟩)))) : Sem Next).run P w = _
  simp only [Instr.loadAt, Instr.sureAddr, Sem.run_bind, Sem.run_pure, Result.andThen_ok, this]
  rfl
theorem DenM.appendK {aO : Array Operand} {t ty e : TypeId} {size bytes : Nat} {sv xv : SV} {k : Tree} {q qx : Option Addr} {cap n kx capx : Nat} {xs news : List Value} {lt lty : TypeId} {d : TypeDesc} {xo : Operand} {pv : SV} (u : Value) (rb ro : Nat) {cur : Array Value} {re : TypeId} {fr : Nat × Nat}
    (hE : El P t e size bytes) (hR : Row m e size q cap n xs)
    (hx : Good c L m → Cells (vw c L ρ blks m) qx news) (hl : news.length = kx * size) (h1 : ∀ u ∈ news, u.oneCell' = true) (hn : qx = none → capx = 0) (h63 : n + kx ≤ maxLen) (hbytes : (n + kx) * bytes ≤ 140737488355328)
    (hlu : P.underlying lt = some d) (hl1 : sizeT P lt = 1) (hla : isAggT P lt = false) (hrb : m rb = some (.cells cur re fr)) (hro : cur[ro]? = some u) (hq : q ≠ some ⟨rb, 0, none⟩) (hpv : pv.den L ρ = .pointer (some ⟨rb, ro, none⟩))
    (hk : ∀ q' cap' m', Row m' e size q' cap' (n + kx) (xs ++ news) → (∀ b, ((∃ o, q = some ⟨b, o, none⟩) → cap < n + kx) → m b ≠ none → m' b = m b) → (q' = q ∨ ∃ g, q' = some ⟨g, 0, none⟩ ∧ m g = none) → DenM P R Dn k L (ρ ++ [.p q', .i (n + kx : Nat), .i (cap' : Nat)]) c m' A)
    (hv : sv.den L ρ = slv q n cap := by rfl) (hxv : xv.den L ρ = slv qx kx capx := by rfl) (hs : scBlks ρ.length blks = true := by rfl) :
    DenM P R Dn (.exk ⟨.call ⟨.builtin .append, aO, #[t, t]⟩, ty, [sv, xv]⟩ .sl blks ⟨.load lt xo, lty, [pv]⟩ k) L ρ c m A := fun g w hw => by
  have hq0 : ∀ o, q = some ⟨rb, o, none⟩ → False := fun o ho => by
    rcases hR.2 with ⟨h, _⟩ | ⟨g', cur', h, _⟩
    · rw [h] at ho; cases ho
    · rw [h] at ho; cases ho; exact hq h
  obtain ⟨v, w', g0, m', us, hrun, hgr, hg0, hm', hH, _, hus, hv', hkeep, hk'⟩ := append_core (K := fun us m' => m' rb = m rb ∧ DenM P R Dn k L (ρ ++ us) c m' A) hE hR hx hl h1 hn h63 hbytes
    (fun q' cap' m' a1 a2 a3 => ⟨a2 rb (fun ⟨o, ho⟩ => (hq0 o ho).elim) (by rw [hrb]; simp), hk q' cap' m' a1 a2 a3⟩) hv hxv g w hw
  have hl := Left.of (us := us) (.inr hs) g hw hgr hg0 hm' hH
  have cell : ∀ {w2 : World}, w2.heap[rb]? = some (.cells cur re fr) → w2.cell? ⟨rb, ro, none⟩ = some u := fun {w2} h => by simp [World.cell?, h, hro]
  refine ⟨v, w', hrun, us, c.hw m', hus, hv', hl.grow, .inl ⟨u, fun w2 hw2 => ?_, fun w2 hw2 => ?_⟩, hl.wd, hk' hl.good⟩
  · have h := (Wd.hold hw2).2 rb _ hrb
    simp only [SV.dens, hpv]
    exact run_load1 hlu hl1 hla (cell h)
  · have h := (Wd.hold hw2).2 rb _ (hkeep.trans hrb)
    simp only [SV.dens, hpv]
    exact run_load1 hlu hl1 hla (cell h)
end
end Go.Sy
/- The sets of labels, plainly; tables whose rows grow. -/
namespace Go.Sy
open Go Go.RowKit
theorem Tab.setApp {m m' m'' : Mem} {eo ei : TypeId} {kd : IntKind} {q : Option Addr} {cap : Nat} {rs : List RD} (h : Tab m eo ei kd q cap rs) {j : Nat} (hj : j < rs.length) {r : RD} {g : Nat} (hr : Row m' ei 1 r.p r.cap r.v.length (r.v.map (.int kd)))
    (hkeep : ∀ b, rs[j].p ≠ some ⟨b, 0, none⟩ → m b ≠ none → m' b = m b) (hnew : r.p = rs[j].p ∨ ∃ g, r.p = some ⟨g, 0, none⟩ ∧ m g = none) (hq : q = some ⟨g, 0, none⟩) (ho : Row m'' eo 1 q cap rs.length ((rs.map RD.s).set j r.s)) (hs : ∀ b, b ≠ g → m'' b = m' b) :
    Tab m'' eo ei kd q cap (rs.set j r) := by
  have hmg : m g ≠ none := by
    rcases h.out.2 with ⟨h1, _⟩ | ⟨g', cur, h1, h2, _⟩
    · rw [hq] at h1; cases h1
    · rw [hq] at h1; cases h1; rw [h2]; simp
  have old : ∀ {x : RD}, x ∈ rs → ∀ b, x.p = some ⟨b, 0, none⟩ → m b ≠ none ∧ b ≠ g := fun {x} hx b hb => by
    have hR := h.inn x hx
    refine ⟨?_, fun e => hR.apart h.out (fun e' => h.ne e'.symm) b hb (by rw [hq, e])⟩
    rcases hR.2 with ⟨h1, _⟩ | ⟨g', cur, h1, h2, _⟩
    · rw [h1] at hb; cases hb
    · rw [h1] at hb; cases hb; rw [h2]; simp
  refine ⟨by rw [List.length_set, List.map_set]; exact ho, fun x hx => ?_, fun i k hi hk b hne hp => ?_, h.ne⟩
  · obtain ⟨i, hi, rfl⟩ := List.mem_iff_getElem.1 hx
    rw [List.length_set] at hi
    rw [List.getElem_set]
    split
    · refine hr.keep fun b hb _ => hs b ?_
      rcases hnew with h1 | ⟨g', h1, h2⟩
      · exact (old (List.getElem_mem hj) b (h1 ▸ hb)).2
      · rw [h1] at hb; cases hb
        exact fun e => hmg (e ▸ h2)
    · rename_i hne
      have hm := List.getElem_mem hi
      refine (h.inn _ hm).keep fun b hb hb' => (hs b (old hm b hb).2).trans (hkeep b (fun e => h.apart i j hi hj b (fun e => hne e.symm) hb e) hb')
  · rw [List.length_set] at hi hk
    rw [List.getElem_set] at hp ⊢
    split at hp
    · split
      · omega
      · rename_i hjk
        intro h2
        rcases hnew with h1 | ⟨g', h1, h3⟩
        · exact h.apart j k hj hk b hjk (h1 ▸ hp) h2
        · rw [h1] at hp; cases hp
          exact (old (List.getElem_mem hk) _ h2).1 h3
    · split
      · rename_i hji hjk
        subst hjk
        intro h2
        rcases hnew with h1 | ⟨g', h1, h3⟩
        · exact h.apart i j hi hj b hne hp (h1 ▸ h2)
        · rw [h1] at h2; cases h2
          exact (old (List.getElem_mem hi) _ hp).1 h3
      · exact h.apart i k hi hk b hne hp
theorem Tab.push {m m' : Mem} {eo ei : TypeId} {kd : IntKind} {q q' : Option Addr} {cap cap' : Nat} {rs : List RD} (h : Tab m eo ei kd q cap rs) {r : RD} (hr : Row m ei 1 r.p r.cap r.v.length (r.v.map (.int kd))) (hap : ∀ x ∈ rs, ∀ b, x.p = some ⟨b, 0, none⟩ → r.p ≠ some ⟨b, 0, none⟩)
    (ho : Row m' eo 1 q' cap' (rs.length + 1) (rs.map RD.s ++ [r.s])) (hk : ∀ b, ((∃ o, q = some ⟨b, o, none⟩) → cap < rs.length + 1) → m b ≠ none → m' b = m b) : Tab m' eo ei kd q' cap' (rs ++ [r]) := by
  refine ⟨by rw [List.length_append, List.map_append]; exact ho, fun x hx => ?_, fun i k hi hk b hne hp => ?_, h.ne⟩
  · have hR : Row m ei 1 x.p x.cap x.v.length (x.v.map (.int kd)) := by
      rcases List.mem_append.1 hx with hx | hx
      · exact h.inn x hx
      · simp at hx; subst hx; exact hr
    exact hR.keepA h.out (fun e => h.ne e.symm) hk
  · rw [List.length_append, List.length_cons, List.length_nil] at hi hk
    rw [List.getElem_append] at hp ⊢
    split at hp
    · rename_i hi'
      split
      · exact h.apart i k hi' (by assumption) b hne hp
      · simpa using hap _ (List.getElem_mem hi') b hp
    · split
      · rename_i hk'
        intro h2
        exact hap _ (List.getElem_mem hk') b h2 (by simpa using hp)
      · omega
end Go.Sy
namespace Go.Proofs.YthabfpagilbplaaDoor
open Go Go.Sy Go.RowKit
def memb (l : List Int) (k : Int) (i : Nat) : List Int := ((List.range i).filter fun j => decide (labAt l j = k)).map fun (j : Nat) => (j : Int)
def heads (l : List Int) (i : Nat) : List Nat := (List.range i).filter fun k => decide (labAt l k = (k : Int))
def badS (l : List Int) (i : Nat) : Bool := decide (labAt l i ≠ -1) && (decide (labAt l i < 0) || decide ((i : Int) < labAt l i) || decide (labAt l (labAt l i).toNat ≠ labAt l i))
theorem badS_yes {l : List Int} {i : Nat} (h : labAt l i ≠ -1) (h2 : labAt l i < 0 ∨ (i : Int) < labAt l i ∨ labAt l (labAt l i).toNat ≠ labAt l i) : badS l i = true := by
  unfold badS
  simp only [Bool.and_eq_true, Bool.or_eq_true, decide_eq_true_eq]
  refine ⟨h, ?_⟩
  rcases h2 with h2 | h2 | h2
  · exact .inl (.inl h2)
  · exact .inl (.inr h2)
  · exact .inr h2
theorem badS_no {l : List Int} {i : Nat} (h2 : 0 ≤ labAt l i ∧ labAt l i ≤ (i : Int) ∧ labAt l (labAt l i).toNat = labAt l i) : badS l i = false := by
  unfold badS
  rw [decide_eq_false (show ¬ labAt l i < 0 by omega), decide_eq_false (show ¬ (i : Int) < labAt l i by omega), decide_eq_false (show ¬ labAt l (labAt l i).toNat ≠ labAt l i from fun h => h h2.2.2)]
  simp
def setsE (l : List Int) : List (List Int) × Int := if l.length > 256 then ([], 12) else if (List.range l.length).any (badS l) = true then ([], 2) else ((heads l l.length).map fun (k : Nat) => memb l (k : Int) l.length, 0)
theorem memb_succ (l : List Int) (k : Int) (i : Nat) : memb l k (i + 1) = if labAt l i = k then memb l k i ++ [(i : Int)] else memb l k i := by
  unfold memb
  rw [List.range_succ, List.filter_append, List.map_append]
  by_cases h : labAt l i = k <;> simp [h]
theorem heads_succ (l : List Int) (i : Nat) : heads l (i + 1) = if labAt l i = (i : Int) then heads l i ++ [i] else heads l i := by
  unfold heads
  rw [List.range_succ, List.filter_append]
  by_cases h : labAt l i = (i : Int) <;> simp [h]
theorem heads_len (l : List Int) (i : Nat) : (heads l i).length ≤ i := by
  unfold heads
  exact Nat.le_trans (List.length_filter_le _ _) (by simp)
theorem memb_len (l : List Int) (k : Int) (i : Nat) : (memb l k i).length ≤ i := by
  unfold memb
  rw [List.length_map]
  exact Nat.le_trans (List.length_filter_le _ _) (by simp)
theorem mem_heads {l : List Int} {i k : Nat} : k ∈ heads l i ↔ k < i ∧ labAt l k = (k : Int) := by
  unfold heads
  rw [List.mem_filter, List.mem_range, decide_eq_true_eq]
theorem mem_memb {l : List Int} {k : Int} {i : Nat} {x : Int} : x ∈ memb l k i ↔ ∃ j : Nat, j < i ∧ labAt l j = k ∧ x = (j : Int) := by
  unfold memb
  rw [List.mem_map]
  constructor
  · rintro ⟨j, h, rfl⟩
    rw [List.mem_filter, List.mem_range, decide_eq_true_eq] at h
    exact ⟨j, h.1, h.2, rfl⟩
  · rintro ⟨j, h1, h2, rfl⟩
    exact ⟨j, by rw [List.mem_filter, List.mem_range, decide_eq_true_eq]; exact ⟨h1, h2⟩, rfl⟩
theorem heads_at {l : List Int} {k i : Nat} (hki : k < i) (hk : labAt l k = (k : Int)) : (heads l i)[(heads l k).length]? = some k := by
  induction i with
  | zero => omega
  | succ i ih =>
    rw [heads_succ]
    by_cases h : k = i
    · subst h
      rw [if_pos hk, List.getElem?_append_right (Nat.le_refl _), Nat.sub_self]; rfl
    · have := ih (by omega)
      split
      · rw [List.getElem?_append_left (List.getElem?_eq_some_iff.1 this).1]; exact this
      · exact this
def GoodS (l : List Int) (i : Nat) : Prop := ∀ j, j < i → labAt l j = -1 ∨ ∃ k : Nat, labAt l j = (k : Int) ∧ k ≤ j ∧ labAt l k = (k : Int)
theorem goodS_of {l : List Int} {i : Nat} (h : ∀ j, j < i → badS l j = false) : GoodS l i := fun j hj => by
  have := h j hj
  unfold badS at this
  by_cases e : labAt l j = -1
  · exact .inl e
  · right
    rw [decide_eq_true e, Bool.true_and] at this
    simp only [Bool.or_eq_false_iff, decide_eq_false_iff_not, Int.not_lt, ne_eq, Decidable.not_not] at this
    obtain ⟨k, hk⟩ := Int.eq_ofNat_of_zero_le this.1.1
    refine ⟨k, hk, by omega, ?_⟩
    have h2 := this.2
    rw [hk] at h2
    simpa using h2
def placeE (l : List Int) (i : Nat) : List Int := (List.range l.length).map fun k => if k < i ∧ labAt l k = (k : Int) then ((heads l k).length : Int) else 0
theorem placeE_zero (l : List Int) : placeE l 0 = List.replicate l.length 0 := by
  unfold placeE
  rw [List.eq_replicate_iff]
  refine ⟨by simp, fun x hx => ?_⟩
  obtain ⟨k, _, rfl⟩ := List.mem_map.1 hx
  rw [if_neg (by omega)]
theorem placeE_len (l : List Int) (i : Nat) : (placeE l i).length = l.length := by simp [placeE]
theorem placeE_at {l : List Int} {i k : Nat} (hk : k < l.length) : (placeE l i)[k]? = some (if k < i ∧ labAt l k = (k : Int) then ((heads l k).length : Int) else 0) := by
  unfold placeE
  rw [List.getElem?_map, List.getElem?_range hk]; rfl
theorem placeE_set {l : List Int} {i : Nat} (h : labAt l i = (i : Int)) (hi : i < l.length) : (placeE l i).set i ((heads l i).length : Int) = placeE l (i + 1) := by
  apply List.ext_getElem?
  intro k
  rw [List.getElem?_set, placeE_len]
  rcases Nat.lt_or_ge k l.length with hk | hk
  · rw [placeE_at hk, placeE_at hk]
    by_cases e : i = k
    · subst e; rw [if_pos rfl, if_pos hi, if_pos ⟨by omega, h⟩]
    · rw [if_neg e]
      congr 1
      by_cases hk2 : k < i ∧ labAt l k = (k : Int)
      · rw [if_pos hk2, if_pos ⟨by omega, hk2.2⟩]
      · rw [if_neg hk2, if_neg (fun h2 => hk2 ⟨by omega, h2.2⟩)]
  · rw [if_neg (by omega), List.getElem?_eq_none (by rw [placeE_len]; exact hk), List.getElem?_eq_none (by rw [placeE_len]; exact hk)]
theorem placeE_same {l : List Int} {i : Nat} (h : labAt l i ≠ (i : Int)) : placeE l (i + 1) = placeE l i := by
  unfold placeE
  apply List.map_congr_left
  intro k _
  by_cases hk : k < i ∧ labAt l k = (k : Int)
  · rw [if_pos hk, if_pos ⟨by omega, hk.2⟩]
  · rw [if_neg hk, if_neg fun h2 => hk ⟨by
      rcases Nat.lt_or_ge k i with h3 | h3
      · exact h3
      · exact absurd h2.2 (by have : k = i := by omega
                              rw [this]; exact h), h2.2⟩]
def grpE (l : List Int) (i : Nat) : List (List Int) := (heads l i).map fun (k : Nat) => memb l (k : Int) i
theorem grp_none {l : List Int} {i : Nat} (h : labAt l i < 0) : grpE l (i + 1) = grpE l i := by
  unfold grpE
  rw [heads_succ, if_neg (by omega)]
  apply List.map_congr_left
  intro k _
  rw [memb_succ, if_neg (by omega)]
theorem grp_new {l : List Int} {i : Nat} (hg : GoodS l (i + 1)) (h : labAt l i = (i : Int)) : grpE l (i + 1) = grpE l i ++ [[(i : Int)]] := by
  unfold grpE
  rw [heads_succ, if_pos h, List.map_append]
  congr 1
  · apply List.map_congr_left
    intro k hk
    have := (mem_heads.1 hk).1
    rw [memb_succ, if_neg (by omega)]
  · have hno : memb l (i : Int) i = [] := by
      rw [List.eq_nil_iff_forall_not_mem]
      intro x hx
      obtain ⟨j, h1, h2, _⟩ := mem_memb.1 hx
      rcases hg j (by omega) with h3 | ⟨k, h3, h4, _⟩ <;> omega
    simp [memb_succ, h, hno]
theorem grp_old {l : List Int} {i k : Nat} (h : labAt l i = (k : Int)) (hk : k < i) (hkk : labAt l k = (k : Int)) : grpE l (i + 1) = (grpE l i).set (heads l k).length (memb l (k : Int) i ++ [(i : Int)]) := by
  unfold grpE
  rw [heads_succ, if_neg (by omega)]
  have hat := heads_at hk hkk
  have hnd : (heads l i).Nodup := List.nodup_range.filter _
  apply List.ext_getElem?
  intro t
  rw [List.getElem?_set, List.length_map, List.getElem?_map, List.getElem?_map]
  have hlt := (List.getElem?_eq_some_iff.1 hat).1
  by_cases e : (heads l k).length = t
  · subst e
    rw [if_pos rfl, if_pos hlt, hat, Option.map_some, memb_succ, if_pos h]
  · rw [if_neg e]
    cases ht : (heads l i)[t]? with
    | none => rfl
    | some x =>
      simp only [Option.map_some]
      rw [memb_succ, if_neg]
      intro h2
      have : x = k := by omega
      subst this
      exact e ((List.getElem?_inj hlt hnd).1 (hat.trans ht.symm))
theorem grp_at {l : List Int} {i k : Nat} (hk : k < i) (hkk : labAt l k = (k : Int)) : (grpE l i)[(heads l k).length]? = some (memb l (k : Int) i) := by
  unfold grpE
  rw [List.getElem?_map, heads_at hk hkk]; rfl
end Go.Proofs.YthabfpagilbplaaDoor
/- Chapter 19: Sets, walked; the law Sets. -/
namespace Go.Proofs.YthabfpagilbplaaDoor
open Go Go.Sy Go.RowKit
theorem tabI_of {m : Mem} {q : Option Addr} {cq : Nat} {rs : List RD} (h : Tab m 30 3 .i64 q cq rs) : TabI m q cq (rs.map fun r => ⟨r.p, r.cap, r.v⟩) := by
  have e : (rs.map fun r => (⟨r.p, r.cap, r.v⟩ : IR)).map IR.v = rs.map RD.s := by rw [List.map_map]; rfl
  refine ⟨fun _ => by rw [e, List.length_map]; exact h.out, fun r hr => ?_, cap0_of h.out, by rw [List.length_map]; exact h.out.cap_le⟩
  obtain ⟨x, hx, rfl⟩ := List.mem_map.1 hr
  exact .of (h.inn x hx)
theorem badS_any {l : List Int} {j : Nat} (hj : j < l.length) (h : badS l j = true) : (List.range l.length).any (badS l) = true := List.any_eq_true.2 ⟨j, List.mem_range.2 hj, h⟩
theorem badS_none {l : List Int} (h : ∀ j, j < l.length → badS l j = false) : (List.range l.length).any (badS l) = false := List.any_eq_false.2 fun j hj => by rw [h j (List.mem_range.1 hj)]; simp
theorem c_Sets (p : Option Addr) (cp : Nat) (l : List Int) (hl : l.length < 2 ^ 63) : FnM Tryd.prog n_cognates_Sets [slv p l.length cp] (fun R => Cells R p (intsL l)) fun v mq _ => ∃ q cq rs, v = .tuple #[slv q rs.length cq, .int .i64 (setsE l).2] ∧ rs.map (·.l) = (setsE l).1 ∧ TabI mq q cq rs := by
  refine FnM.of S_cognates_Sets mx [.p p, .i l.length, .i cp] rfl rfl fun c hp => .chk (by ((try simp only [evE, liE, lO, lU, snd]); (try simp only [cmE])); omega) (.ite (fun h1 => .ret rfl ?_) (fun h1 => .chk (by ((try simp only [evE, liE, lO, lU, snd]); (try simp only [cmE])); omega) ?_)) <;> ((try simp only [evE, liE, lO, lU, snd] at h1); (try simp only [cmE] at h1))
  · unfold setsE; rw [if_pos (by omega)]; exact ⟨none, 0, [], rfl, rfl, .empty _⟩
  have h256 : ¬ l.length > 256 := by omega
  refine .loop (fun n us m => ∃ (pp : Option Addr) (n1 n2 : Int) (e : Int) (j : Nat), j ≤ l.length ∧ us = [.p pp, .i n1, .i n2, .i e, .i j] ∧ n = l.length - j ∧ ∀ i, i < j → badS l i = false) l.length ⟨none, 0, 0, 0, 0, Nat.zero_le _, rfl, rfl, fun i h => by omega⟩ ?_
  rintro n us m _ ⟨pp, n1, n2, e, j, hj, rfl, rfl, hb⟩
  refine .env (by (try simp only [liE, lO, lU, snd, aN]); rfl) (.ite (fun h2 => ?_) (fun h2 => .chk (by ((try simp only [evE, liE, lO, lU, snd]); (try simp only [cmE])); omega) ?_)) <;> ((try simp only [evE, liE, lO, lU, snd] at h2); (try simp only [cmE] at h2))
  · have hj : j < l.length := by omega
    have bad : badS l j = true → setsE l = ([], 2) := fun h => by unfold setsE; rw [if_neg h256, if_pos (badS_any hj h)]
    have next : badS l j = false → ∀ i, i < j + 1 → badS l i = false := fun h i hi => by
      rcases Nat.lt_or_ge i j with h' | h'
      · exact hb i h'
      · have : i = j := by omega
        subst this; exact h
    refine .elem1 (.int .i64 (labAt l j)) (intsL l) j l.length rfl rfl hj (fun g => hp.mono g.R) (intsL_at _ _ hj) (.env (by (try simp only [liE, lO, lU, snd, aN]); rfl) (.ite (fun h3 => .ite (fun h4 => ?_) (fun h4 => ?_)) (fun h3 => .ret rfl ?_)))
    · replace h3 : (!(bif decide (labAt l j < -1) then true else decide (labAt l j > (j : Int)))) = true := h3
      ((try simp only [evE, liE, lO, lU, snd] at h4); (try simp only [cmE] at h4))
      have h5 : labAt l j ≤ (j : Int) := by
        by_cases h6 : labAt l j > (j : Int)
        · rw [decide_eq_true h6] at h3; cases h7 : decide (labAt l j < -1) <;> rw [h7] at h3 <;> simp at h3
        · omega
      obtain ⟨k, hk⟩ := Int.eq_ofNat_of_zero_le h4
      have hkl : k < l.length := by omega
      refine .elem1 (.int .i64 (labAt l k)) (intsL l) k l.length hk rfl hkl (fun g => hp.mono g.R) (intsL_at _ _ hkl) (.env (by (try simp only [liE, lO, lU, snd, aN]); rfl) (.ite (fun h6 => .ret rfl ?_) (fun h6 => .again rfl ⟨l.length - (j + 1), by omega, pp, n1, n2, e, j + 1, by omega, ?_, rfl, next ?_⟩)))
      · ((try simp only [evE, liE, lO, lU, snd] at h6); (try simp only [cmE] at h6))
        rw [bad (badS_yes (by omega) (.inr (.inr (by rw [hk] at h6 ⊢; exact h6))))]
        exact ⟨none, 0, [], rfl, rfl, .empty _⟩
      · (simp only [evE, liE, lO, lU, snd, Sh.uss, Sh.us, atAddr, map_add0, List.append_nil]); rw [add_i64 j (by omega)]
      · ((try simp only [evE, liE, lO, lU, snd] at h6); (try simp only [cmE] at h6))
        exact badS_no ⟨h4, h5, by rw [hk] at h6 ⊢; exact h6⟩
    · replace h3 : (!(bif decide (labAt l j < -1) then true else decide (labAt l j > (j : Int)))) = true := h3
      ((try simp only [evE, liE, lO, lU, snd] at h4); (try simp only [cmE] at h4))
      have h5 : labAt l j = -1 := by
        by_cases h6 : labAt l j < -1
        · rw [decide_eq_true h6] at h3; cases h3
        · omega
      refine .again rfl ⟨l.length - (j + 1), by omega, pp, n1, n2, e, j + 1, by omega, ?_, rfl, next (by unfold badS; rw [h5]; rfl)⟩
      (simp only [evE, liE, lO, lU, snd, Sh.uss, Sh.us, atAddr, map_add0, List.append_nil]); rw [add_i64 j (by omega)]
    · replace h3 : (!(bif decide (labAt l j < -1) then true else decide (labAt l j > (j : Int)))) = false := h3
      have h5 : labAt l j < -1 ∨ (j : Int) < labAt l j := by
        by_cases h6 : labAt l j < -1
        · exact .inl h6
        · right
          by_cases h7 : labAt l j > (j : Int)
          · exact h7
          · rw [decide_eq_false h6, decide_eq_false h7] at h3; cases h3
      rw [bad (badS_yes (by omega) (by omega))]
      exact ⟨none, 0, [], rfl, rfl, .empty _⟩
  · have hgood : GoodS l l.length := goodS_of fun i hi => hb i (by omega)
    have hspec : setsE l = (grpE l l.length, 0) := by
      unfold setsE; rw [if_neg h256, badS_none fun i hi => hb i (by omega)]; rfl
    rw [hspec]
    clear hb h2 hj hspec
    refine .make (z := .int .i64 0) (bytes := 8) l.length Tryd.underlying30 (by kernel_rfl) rfl (by omega) (by simp [maxLen]; omega) fun g9 hg9 hrow => .env (by (try simp only [liE, lO, lU, snd, aN]); rfl) (.chk (by ((try simp only [evE, liE, lO, lU, snd]); (try simp only [cmE])); omega) ?_)
    generalize m.upd g9 _ = m9 at hrow ⊢
    refine .loop (fun n us m => ∃ (q : Option Addr) (cq : Nat) (rs : List RD) (i : Nat), i ≤ l.length ∧ us = [.p q, .i rs.length, .i cq, .i i] ∧ n = l.length - i ∧ rs.map (·.v) = grpE l i ∧ Tab m 30 3 .i64 q cq rs ∧ (∀ r ∈ rs, r.p ≠ some ⟨g9, 0, none⟩) ∧ Row m 3 1 (some ⟨g9, 0, none⟩) l.length l.length (intsL (placeE l i))) l.length ⟨none, 0, [], 0, Nat.zero_le _, rfl, rfl, rfl, ⟨.nil _ _ _, (by intro r hr; cases hr), (fun i j hi => by simp at hi), by decide⟩, (by intro r hr; cases hr), by rw [placeE_zero]; simpa [intsL] using hrow⟩ ?_
    rintro n us m4 _ ⟨q, cq, rs, i, hi, rfl, rfl, hrs, hT, hsep, hpl⟩
    have hlen : rs.length ≤ i := by
      have := congrArg List.length hrs
      rw [List.length_map] at this
      unfold grpE at this
      rw [List.length_map] at this
      have := heads_len l i
      omega
    refine .env (by (try simp only [liE, lO, lU, snd, aN]); rfl) (.ite (fun h3 => ?_) (fun h3 => .ret rfl ?_)) <;> ((try simp only [evE, liE, lO, lU, snd] at h3); (try simp only [cmE] at h3))
    · have hi : i < l.length := by omega
      refine .elem1 (.int .i64 (labAt l i)) (intsL l) i l.length rfl rfl hi (fun g => hp.mono g.R) (intsL_at _ _ hi) (.env (by (try simp only [liE, lO, lU, snd, aN]); rfl) (.ite (fun h4 => ?_) (fun h4 => .ite (fun h5 => ?_) (fun h5 => ?_)))) <;> ((try simp only [evE, liE, lO, lU, snd] at h4); (try simp only [cmE] at h4))
      · refine .again rfl ⟨l.length - (i + 1), by omega, q, cq, rs, i + 1, by omega, ?_, rfl, by rw [grp_none h4]; exact hrs, hT, hsep, by rw [placeE_same (by omega)]; exact hpl⟩
        (simp only [evE, liE, lO, lU, snd, Sh.uss, Sh.us, atAddr, map_add0, List.append_nil]); rw [add_i64 i (by omega)]
      · ((try simp only [evE, liE, lO, lU, snd] at h5); (try simp only [cmE] at h5))
        have hrl : (heads l i).length = rs.length := by
          have := congrArg List.length hrs
          rw [List.length_map] at this
          unfold grpE at this
          rw [List.length_map] at this
          exact this.symm
        have hmg : m4 g9 ≠ none := by
          rcases hpl.2 with ⟨h, _⟩ | ⟨g', cur, h, h', _⟩
          · cases h
          · cases h; rw [h']; simp
        refine .chk (by ((try simp only [evE, liE, lO, lU, snd]); (try simp only [cmE])); omega) (.storeR i hi hpl rfl rfl rfl fun m5 g hg hpl' hs5 => ?_)
        cases hg
        replace hpl' : Row m5 3 1 (some ⟨g9, 0, none⟩) l.length l.length (intsL (placeE l (i + 1))) := by
          rw [← placeE_set h5 hi, ← intsL_set, hrl]; exact hpl'
        have hT5 : Tab m5 30 3 .i64 q cq rs := by
          refine ⟨hT.out.keep fun b hb hb' => hs5 b fun e => ?_, fun r hr => (hT.inn r hr).keep fun b hb _ => hs5 b fun e => hsep r hr (by rw [hb, e]), hT.apart, hT.ne⟩
          exact hT.out.apart hpl (by decide) b hb (by rw [e])
        refine .alloc' fun b1 _ hb1 _ => .alloc' fun b2 hb21 hb2 _ => ?_
        have hne21 : b2 ≠ b1 := fun e => hb21 (by rw [e]; simp)
        refine .env (by (try simp only [liE, lO, lU, snd, aN]); rfl) (.append (q := q) (cap := cq) (n := rs.length) (qx := some ⟨b2, 0, none⟩) (kx := 1) (capx := 1) (news := [slv (some ⟨b1, 0, none⟩) 1 1]) elT hT5.out (fun g => g.cells (j := 1) rfl rfl rfl) rfl (by simp [slv, Value.oneCell']) (fun h => by cases h) (by simp [maxLen]; omega) (by omega) (fun q' cq' m6 hr6 hk6 _ => .againL rfl fun gd => ⟨l.length - (i + 1), by omega, q', cq', rs ++ [⟨some ⟨b1, 0, none⟩, 1, [(i : Int)]⟩], i + 1, by omega, ?_, rfl, ?_, ?_, ?_, ?_⟩))
        · (simp only [evE, liE, lO, lU, snd, Sh.uss, Sh.us, atAddr, map_add0, List.append_nil]); rw [add_i64 i (by omega), List.length_append]; rfl
        · rw [List.map_append, hrs, grp_new (fun j hj => hgood j (by omega)) h5]; rfl
        · have h61 : m6 b1 = none := (gd.blk b1 (by simp)).1
          have h62 : m6 b2 = none := (gd.blk b2 (by simp)).1
          show Tab ((m6.upd b2 (.cells #[slv (some ⟨b1, 0, none⟩) 1 1] 30 (0, 0))).upd b1 (.cells #[.int .i64 (i : Int)] 3 (0, 0))) _ _ _ _ _ _
          refine Tab.push (m := (m5.upd b2 (.cells #[slv (some ⟨b1, 0, none⟩) 1 1] 30 (0, 0))).upd b1 (.cells #[.int .i64 (i : Int)] 3 (0, 0))) (hT5.keep fun b hb => ?_) (r := ⟨some ⟨b1, 0, none⟩, 1, [(i : Int)]⟩) ⟨rfl, .inr ⟨b1, _, rfl, Mem.upd_same .., Nat.le_refl _, by show 1 ≤ maxLen; decide, rfl, rfl⟩⟩ (fun x hx b hb e => ?_) ?_ (fun b hb hb' => ?_)
          · rw [Mem.upd_other _ _ (fun e => hb (by rw [e]; exact hb1)), Mem.upd_other _ _ (fun e => hb (by rw [e]; exact hb2))]
          · cases e
            rcases (hT5.inn x hx).2 with ⟨h, _⟩ | ⟨g', cur, h, h', _⟩
            · rw [h] at hb; cases hb
            · rw [h] at hb; cases hb; rw [hb1] at h'; cases h'
          · refine hr6.keep fun b _ hb => ?_
            rw [Mem.upd_other _ _ (fun e => hb (by rw [e]; exact h61)), Mem.upd_other _ _ (fun e => hb (by rw [e]; exact h62))]
          · by_cases e1 : b = b1
            · subst e1; rw [Mem.upd_same, Mem.upd_same]
            · rw [Mem.upd_other _ _ e1, Mem.upd_other _ _ e1] at *
              by_cases e2 : b = b2
              · subst e2; rw [Mem.upd_same, Mem.upd_same]
              · rw [Mem.upd_other _ _ e2, Mem.upd_other _ _ e2] at *
                exact hk6 b hb hb'
        · intro r hr
          rcases List.mem_append.1 hr with hr | hr
          · exact hsep r hr
          · simp at hr; subst hr
            intro e; cases e
            have := hpl'.2
            rcases this with ⟨h, _⟩ | ⟨g', cur, h, h', _⟩
            · cases h
            · cases h; rw [hb1] at h'; cases h'
        · have h61 : m6 b1 = none := (gd.blk b1 (by simp)).1
          have h62 : m6 b2 = none := (gd.blk b2 (by simp)).1
          show Row ((m6.upd b2 _).upd b1 _) _ _ _ _ _ _
          refine (hpl'.keepA hT5.out (by decide) hk6).keep fun b _ hb => ?_
          rw [Mem.upd_other _ _ (fun e => hb (by rw [e]; exact h61)), Mem.upd_other _ _ (fun e => hb (by rw [e]; exact h62))]
      · ((try simp only [evE, liE, lO, lU, snd] at h5); (try simp only [cmE] at h5))
        obtain ⟨k, hk, hki, hkk⟩ : ∃ k : Nat, labAt l i = (k : Int) ∧ k < i ∧ labAt l k = (k : Int) := by
          rcases hgood i hi with h | ⟨k, h6, h7, h8⟩
          · omega
          · exact ⟨k, h6, by omega, h8⟩
        have hkl : k < l.length := by omega
        have hpk : (intsL (placeE l i))[k]? = some (.int .i64 ((heads l k).length : Int)) := by
          unfold intsL
          rw [List.getElem?_map, placeE_at hkl, if_pos ⟨hki, hkk⟩]; rfl
        have hgx := grp_at hki hkk
        rw [← hrs, List.getElem?_map, Option.map_eq_some_iff] at hgx
        obtain ⟨r, hr, hrv⟩ := hgx
        obtain ⟨hx, hrx⟩ := List.getElem?_eq_some_iff.1 hr
        have hrm : r ∈ rs := List.mem_of_getElem? hr
        refine .elem1 (.int .i64 ((heads l k).length : Int)) (intsL (placeE l i)) k l.length (by show labAt l i = _; exact hk) rfl hkl (fun g => hpl.reads g) hpk (.env (by (try simp only [liE, lO, lU, snd, aN]); rfl) (.elem1 (.int .i64 ((heads l k).length : Int)) (intsL (placeE l i)) k l.length (by show labAt l i = _; exact hk) rfl hkl (fun g => hpl.reads g) hpk (.env (by (try simp only [liE, lO, lU, snd, aN]); rfl) (.loadRow hT (heads l k).length r hr (.alloc' fun b0 _ hb0 _ => .env (by (try simp only [liE, lO, lU, snd, aN]); rfl) ?_) rfl rfl rfl))))
        have hml : r.v.length ≤ 256 := by rw [hrv]; have := memb_len l (k : Int) i; omega
        have hplc := hpl.2
        rcases hplc with ⟨h, _⟩ | ⟨g', cur, hq', hg', _, _, _, hcur⟩
        · cases h
        cases hq'
        refine .appendK (q := r.p) (cap := r.cap) (n := r.v.length) (qx := some ⟨b0, 0, none⟩) (kx := 1) (capx := 1) (news := [.int .i64 (i : Int)]) (.int .i64 ((heads l k).length : Int)) g9 k elI (hT.inn r hrm) (fun g => g.cells (j := 0) rfl rfl rfl) rfl (by simp [Value.oneCell']) (fun h => by cases h) (by simp [maxLen]; omega) (by omega) Tryd.underlying3 (by kernel_rfl) (by kernel_rfl) hg' ?_ (hsep r hrm) ?_ (fun q' cq' m6 hr6 hk6 hq6 => ?_)
        · rw [Nat.mul_one] at hcur
          rw [← Array.getElem?_toList, ← List.getElem?_take_of_lt hkl, hcur]; exact hpk
        · show Value.pointer ((some (⟨g9, 0, none⟩ : Addr)).map fun a => a.add ((0 : Int) + labAt l i * ((1 : Nat) : Int)).toNat) = _
          rw [hk, show ((0 : Int) + (k : Int) * ((1 : Nat) : Int)).toNat = k by omega]
          simp [addr_add]
        · have hout6 := hT.out.keepA (hT.inn r hrm) (by decide) hk6
          have hpl6 : Row m6 3 1 (some ⟨g9, 0, none⟩) l.length l.length (intsL (placeE l i)) := hpl.keep fun b hb hb' => hk6 b (fun ⟨o, ho⟩ => by
            cases hb
            rcases (hT.inn r hrm).2 with ⟨h, _⟩ | ⟨g2, cur2, h, _⟩
            · rw [h] at ho; cases ho
            · rw [h] at ho; cases ho
              exact absurd h (hsep r hrm)) hb'
          refine .env (by (try simp only [liE, lO, lU, snd, aN]); rfl) (.storeR (heads l k).length hx hout6 rfl rfl rfl fun m7 g hg hr7 hs7 => .againL rfl fun gd => ⟨l.length - (i + 1), by omega, q, cq, rs.set (heads l k).length ⟨q', cq', r.v ++ [(i : Int)]⟩, i + 1, by omega, ?_, rfl, ?_, ?_, ?_, ?_⟩)
          · (simp only [evE, liE, lO, lU, snd, Sh.uss, Sh.us, atAddr, map_add0, List.append_nil]); rw [add_i64 i (by omega), List.length_set]
          · rw [List.map_set, hrs, grp_old hk hki hkk]
            show (grpE l i).set _ (r.v ++ _) = _
            rw [hrv]
          · have h70 : m7 b0 = none := (gd.blk b0 (by simp)).1
            refine (Tab.setApp (m := m4) (m' := m6) hT hx (r := ⟨q', cq', r.v ++ [(i : Int)]⟩) ?_ (fun b hb hb' => hk6 b (fun ⟨o, ho⟩ => ?_) hb') ?_ hg ?_ hs7).keep fun b hb => ?_
            · rw [List.length_append, List.map_append]; exact hr6
            · rcases (hT.inn r hrm).2 with ⟨h, _⟩ | ⟨g2, cur2, h, _⟩
              · rw [h] at ho; cases ho
              · rw [h] at ho; cases ho
                rw [hrx] at hb
                exact absurd h hb
            · rw [hrx]; exact hq6
            · show Row _ _ _ _ _ _ ((rs.map RD.s).set _ (slv q' (r.v ++ [(i : Int)]).length cq'))
              rw [List.length_append]; exact hr7
            · show (m7.upd b0 _) b = _
              rw [Mem.upd_other _ _ (fun e => hb (by rw [e]; exact h70))]
          · intro x hxm
            rcases List.mem_or_eq_of_mem_set hxm with hxm | rfl
            · exact hsep x hxm
            · rcases hq6 with h | ⟨g2, h, h2⟩
              · show q' ≠ _
                rw [h]; exact hsep r hrm
              · intro e
                have e : q' = _ := e
                rw [h] at e; cases e
                rw [hg'] at h2; cases h2
          · have h70 : m7 b0 = none := (gd.blk b0 (by simp)).1
            rw [placeE_same (by omega)]
            refine (hpl6.keep fun b hb hb' => hs7 b fun e => ?_).keep fun b _ hb => ?_
            · exact hpl6.apart hout6 (by decide) b hb (by rw [hg, e])
            · show (m7.upd b0 _) b = _
              rw [Mem.upd_other _ _ (fun e => hb (by rw [e]; exact h70))]
    · have : i = l.length := by omega
      subst this
      exact ⟨q, cq, _, by rw [List.length_map]; rfl, by rw [← hrs, List.map_map]; rfl, tabI_of hT⟩
end Go.Proofs.YthabfpagilbplaaDoor
/- Chapter 19: the law Classes. -/
namespace Go.Proofs.YthabfpagilbplaaDoor
open Go Go.Sy Go.RowKit
/-! What the sets are. -/
end Go.Proofs.YthabfpagilbplaaDoor
/- Chapter 19: the law Classes, walked. -/
namespace Go.Sy
open Go Go.RowKit
section
variable {P : Program} {c : Cx} {L : List Nat} {ρ : Env} {blks : List Blk} {m : Mem} {R : Value → HW → Prop} {Dn : Nat → List U → HW → Prop} {A : List (List U → HW → Prop)}
end
end Go.Sy
namespace Go.Proofs.YthabfpagilbplaaDoor
open Go Go.Sy Go.RowKit
end Go.Proofs.YthabfpagilbplaaDoor
