/- The sets of labels, plainly; tables whose rows grow. -/
import Derived.Test.YthabfpagilbplaaDoorRi
set_option linter.unusedSimpArgs false
set_option linter.unusedVariables false
namespace Go.Sy
open Go Go.RowKit
/-- A row of a table has been appended to, and is stored. -/
theorem Tab.setApp {m m' m'' : Mem} {eo ei : TypeId} {kd : IntKind} {q : Option Addr} {cap : Nat} {rs : List RD} (h : Tab m eo ei kd q cap rs) {j : Nat} (hj : j < rs.length) {r : RD} {g : Nat} (hr : Row m' ei 1 r.p r.cap r.v.length (r.v.map (.int kd)))
    (hkeep : ∀ b, rs[j].p ≠ some ⟨b, 0, none⟩ → m b ≠ none → m' b = m b) (hnew : r.p = rs[j].p ∨ ∃ g, r.p = some ⟨g, 0, none⟩ ∧ m g = none) (hq : q = some ⟨g, 0, none⟩) (ho : Row m'' eo 1 q cap rs.length ((rs.map RD.s).set j r.s)) (hs : ∀ b, b ≠ g → m'' b = m' b) :
    Tab m'' eo ei kd q cap (rs.set j r) := by
  have hmg : m g ≠ none := by
    rcases h.out.2 with ⟨h1, _⟩ | ⟨g', cur, h1, h2, _⟩
    · rw [hq] at h1; cases h1
    · rw [hq] at h1; cases h1; rw [h2]; simp
  have old : ∀ {x : RD}, x ∈ rs → ∀ b, x.p = some ⟨b, 0, none⟩ → m b ≠ none ∧ b ≠ g := fun {x} hx b hb => by
    have hR := h.inn x hx
    refine ⟨?_, fun e => hR.apart h.out (fun e' => h.ne e'.symm) b hb (by rw [hq, e])⟩
    rcases hR.2 with ⟨h1, _⟩ | ⟨g', cur, h1, h2, _⟩
    · rw [h1] at hb; cases hb
    · rw [h1] at hb; cases hb; rw [h2]; simp
  refine ⟨by rw [List.length_set, List.map_set]; exact ho, fun x hx => ?_, fun i k hi hk b hne hp => ?_, h.ne⟩
  · obtain ⟨i, hi, rfl⟩ := List.mem_iff_getElem.1 hx
    rw [List.length_set] at hi
    rw [List.getElem_set]
    split
    · refine hr.keep fun b hb _ => hs b ?_
      rcases hnew with h1 | ⟨g', h1, h2⟩
      · exact (old (List.getElem_mem hj) b (h1 ▸ hb)).2
      · rw [h1] at hb; cases hb
        exact fun e => hmg (e ▸ h2)
    · rename_i hne
      have hm := List.getElem_mem hi
      refine (h.inn _ hm).keep fun b hb hb' => (hs b (old hm b hb).2).trans (hkeep b (fun e => h.apart i j hi hj b (fun e => hne e.symm) hb e) hb')
  · rw [List.length_set] at hi hk
    rw [List.getElem_set] at hp ⊢
    split at hp
    · split
      · omega
      · rename_i hjk
        intro h2
        rcases hnew with h1 | ⟨g', h1, h3⟩
        · exact h.apart j k hj hk b hjk (h1 ▸ hp) h2
        · rw [h1] at hp; cases hp
          exact (old (List.getElem_mem hk) _ h2).1 h3
    · split
      · rename_i hji hjk
        subst hjk
        intro h2
        rcases hnew with h1 | ⟨g', h1, h3⟩
        · exact h.apart i j hi hj b hne hp (h1 ▸ h2)
        · rw [h1] at h2; cases h2
          exact (old (List.getElem_mem hi) _ hp).1 h3
      · exact h.apart i k hi hk b hne hp
/-- A row is appended. -/
theorem Tab.push {m m' : Mem} {eo ei : TypeId} {kd : IntKind} {q q' : Option Addr} {cap cap' : Nat} {rs : List RD} (h : Tab m eo ei kd q cap rs) {r : RD} (hr : Row m ei 1 r.p r.cap r.v.length (r.v.map (.int kd))) (hap : ∀ x ∈ rs, ∀ b, x.p = some ⟨b, 0, none⟩ → r.p ≠ some ⟨b, 0, none⟩)
    (ho : Row m' eo 1 q' cap' (rs.length + 1) (rs.map RD.s ++ [r.s])) (hk : ∀ b, ((∃ o, q = some ⟨b, o, none⟩) → cap < rs.length + 1) → m b ≠ none → m' b = m b) : Tab m' eo ei kd q' cap' (rs ++ [r]) := by
  refine ⟨by rw [List.length_append, List.map_append]; exact ho, fun x hx => ?_, fun i k hi hk b hne hp => ?_, h.ne⟩
  · have hR : Row m ei 1 x.p x.cap x.v.length (x.v.map (.int kd)) := by
      rcases List.mem_append.1 hx with hx | hx
      · exact h.inn x hx
      · simp at hx; subst hx; exact hr
    exact hR.keepA h.out (fun e => h.ne e.symm) hk
  · rw [List.length_append, List.length_cons, List.length_nil] at hi hk
    rw [List.getElem_append] at hp ⊢
    split at hp
    · rename_i hi'
      split
      · exact h.apart i k hi' (by assumption) b hne hp
      · simpa using hap _ (List.getElem_mem hi') b hp
    · split
      · rename_i hk'
        intro h2
        exact hap _ (List.getElem_mem hk') b h2 (by simpa using hp)
      · omega
end Go.Sy
namespace Go.Proofs.YthabfpagilbplaaDoor
open Go Go.Sy Go.RowKit
/-- The members of a set among the first i. -/
def memb (l : List Int) (k : Int) (i : Nat) : List Int := ((List.range i).filter fun j => decide (labAt l j = k)).map fun (j : Nat) => (j : Int)
/-- Those that have their own label, among the first i. -/
def heads (l : List Int) (i : Nat) : List Nat := (List.range i).filter fun k => decide (labAt l k = (k : Int))
def badS (l : List Int) (i : Nat) : Bool := decide (labAt l i ≠ -1) && (decide (labAt l i < 0) || decide ((i : Int) < labAt l i) || decide (labAt l (labAt l i).toNat ≠ labAt l i))
theorem badS_yes {l : List Int} {i : Nat} (h : labAt l i ≠ -1) (h2 : labAt l i < 0 ∨ (i : Int) < labAt l i ∨ labAt l (labAt l i).toNat ≠ labAt l i) : badS l i = true := by
  unfold badS
  simp only [Bool.and_eq_true, Bool.or_eq_true, decide_eq_true_eq]
  refine ⟨h, ?_⟩
  rcases h2 with h2 | h2 | h2
  · exact .inl (.inl h2)
  · exact .inl (.inr h2)
  · exact .inr h2
theorem badS_no {l : List Int} {i : Nat} (h2 : 0 ≤ labAt l i ∧ labAt l i ≤ (i : Int) ∧ labAt l (labAt l i).toNat = labAt l i) : badS l i = false := by
  unfold badS
  rw [decide_eq_false (show ¬ labAt l i < 0 by omega), decide_eq_false (show ¬ (i : Int) < labAt l i by omega), decide_eq_false (show ¬ labAt l (labAt l i).toNat ≠ labAt l i from fun h => h h2.2.2)]
  simp
def setsE (l : List Int) : List (List Int) × Int := if l.length > 256 then ([], 12) else if (List.range l.length).any (badS l) = true then ([], 2) else ((heads l l.length).map fun (k : Nat) => memb l (k : Int) l.length, 0)
theorem memb_succ (l : List Int) (k : Int) (i : Nat) : memb l k (i + 1) = if labAt l i = k then memb l k i ++ [(i : Int)] else memb l k i := by
  unfold memb
  rw [List.range_succ, List.filter_append, List.map_append]
  by_cases h : labAt l i = k <;> simp [h]
theorem heads_succ (l : List Int) (i : Nat) : heads l (i + 1) = if labAt l i = (i : Int) then heads l i ++ [i] else heads l i := by
  unfold heads
  rw [List.range_succ, List.filter_append]
  by_cases h : labAt l i = (i : Int) <;> simp [h]
theorem heads_len (l : List Int) (i : Nat) : (heads l i).length ≤ i := by
  unfold heads
  exact Nat.le_trans (List.length_filter_le _ _) (by simp)
theorem memb_len (l : List Int) (k : Int) (i : Nat) : (memb l k i).length ≤ i := by
  unfold memb
  rw [List.length_map]
  exact Nat.le_trans (List.length_filter_le _ _) (by simp)
theorem mem_heads {l : List Int} {i k : Nat} : k ∈ heads l i ↔ k < i ∧ labAt l k = (k : Int) := by
  unfold heads
  rw [List.mem_filter, List.mem_range, decide_eq_true_eq]
theorem mem_memb {l : List Int} {k : Int} {i : Nat} {x : Int} : x ∈ memb l k i ↔ ∃ j : Nat, j < i ∧ labAt l j = k ∧ x = (j : Int) := by
  unfold memb
  rw [List.mem_map]
  constructor
  · rintro ⟨j, h, rfl⟩
    rw [List.mem_filter, List.mem_range, decide_eq_true_eq] at h
    exact ⟨j, h.1, h.2, rfl⟩
  · rintro ⟨j, h1, h2, rfl⟩
    exact ⟨j, by rw [List.mem_filter, List.mem_range, decide_eq_true_eq]; exact ⟨h1, h2⟩, rfl⟩
theorem heads_at {l : List Int} {k i : Nat} (hki : k < i) (hk : labAt l k = (k : Int)) : (heads l i)[(heads l k).length]? = some k := by
  induction i with
  | zero => omega
  | succ i ih =>
    rw [heads_succ]
    by_cases h : k = i
    · subst h
      rw [if_pos hk, List.getElem?_append_right (Nat.le_refl _), Nat.sub_self]; rfl
    · have := ih (by omega)
      split
      · rw [List.getElem?_append_left (List.getElem?_eq_some_iff.1 this).1]; exact this
      · exact this
/-- Labels that are taken: each -1, or one's own, or that of an earlier one which has its own. -/
def GoodS (l : List Int) (i : Nat) : Prop := ∀ j, j < i → labAt l j = -1 ∨ ∃ k : Nat, labAt l j = (k : Int) ∧ k ≤ j ∧ labAt l k = (k : Int)
theorem goodS_of {l : List Int} {i : Nat} (h : ∀ j, j < i → badS l j = false) : GoodS l i := fun j hj => by
  have := h j hj
  unfold badS at this
  by_cases e : labAt l j = -1
  · exact .inl e
  · right
    rw [decide_eq_true e, Bool.true_and] at this
    simp only [Bool.or_eq_false_iff, decide_eq_false_iff_not, Int.not_lt, ne_eq, Decidable.not_not] at this
    obtain ⟨k, hk⟩ := Int.eq_ofNat_of_zero_le this.1.1
    refine ⟨k, hk, by omega, ?_⟩
    have h2 := this.2
    rw [hk] at h2
    simpa using h2
/-- The place of a set among the sets. -/
def placeE (l : List Int) (i : Nat) : List Int := (List.range l.length).map fun k => if k < i ∧ labAt l k = (k : Int) then ((heads l k).length : Int) else 0
theorem placeE_zero (l : List Int) : placeE l 0 = List.replicate l.length 0 := by
  unfold placeE
  rw [List.eq_replicate_iff]
  refine ⟨by simp, fun x hx => ?_⟩
  obtain ⟨k, _, rfl⟩ := List.mem_map.1 hx
  rw [if_neg (by omega)]
theorem placeE_len (l : List Int) (i : Nat) : (placeE l i).length = l.length := by simp [placeE]
theorem placeE_at {l : List Int} {i k : Nat} (hk : k < l.length) : (placeE l i)[k]? = some (if k < i ∧ labAt l k = (k : Int) then ((heads l k).length : Int) else 0) := by
  unfold placeE
  rw [List.getElem?_map, List.getElem?_range hk]; rfl
theorem placeE_set {l : List Int} {i : Nat} (h : labAt l i = (i : Int)) (hi : i < l.length) : (placeE l i).set i ((heads l i).length : Int) = placeE l (i + 1) := by
  apply List.ext_getElem?
  intro k
  rw [List.getElem?_set, placeE_len]
  rcases Nat.lt_or_ge k l.length with hk | hk
  · rw [placeE_at hk, placeE_at hk]
    by_cases e : i = k
    · subst e; rw [if_pos rfl, if_pos hi, if_pos ⟨by omega, h⟩]
    · rw [if_neg e]
      congr 1
      by_cases hk2 : k < i ∧ labAt l k = (k : Int)
      · rw [if_pos hk2, if_pos ⟨by omega, hk2.2⟩]
      · rw [if_neg hk2, if_neg (fun h2 => hk2 ⟨by omega, h2.2⟩)]
  · rw [if_neg (by omega), List.getElem?_eq_none (by rw [placeE_len]; exact hk), List.getElem?_eq_none (by rw [placeE_len]; exact hk)]
theorem placeE_same {l : List Int} {i : Nat} (h : labAt l i ≠ (i : Int)) : placeE l (i + 1) = placeE l i := by
  unfold placeE
  apply List.map_congr_left
  intro k _
  by_cases hk : k < i ∧ labAt l k = (k : Int)
  · rw [if_pos hk, if_pos ⟨by omega, hk.2⟩]
  · rw [if_neg hk, if_neg fun h2 => hk ⟨by
      rcases Nat.lt_or_ge k i with h3 | h3
      · exact h3
      · exact absurd h2.2 (by have : k = i := by omega
                              rw [this]; exact h), h2.2⟩]
/-- The sets of the first i. -/
def grpE (l : List Int) (i : Nat) : List (List Int) := (heads l i).map fun (k : Nat) => memb l (k : Int) i
theorem grp_none {l : List Int} {i : Nat} (h : labAt l i < 0) : grpE l (i + 1) = grpE l i := by
  unfold grpE
  rw [heads_succ, if_neg (by omega)]
  apply List.map_congr_left
  intro k _
  rw [memb_succ, if_neg (by omega)]
theorem grp_new {l : List Int} {i : Nat} (hg : GoodS l (i + 1)) (h : labAt l i = (i : Int)) : grpE l (i + 1) = grpE l i ++ [[(i : Int)]] := by
  unfold grpE
  rw [heads_succ, if_pos h, List.map_append]
  congr 1
  · apply List.map_congr_left
    intro k hk
    have := (mem_heads.1 hk).1
    rw [memb_succ, if_neg (by omega)]
  · have hno : memb l (i : Int) i = [] := by
      rw [List.eq_nil_iff_forall_not_mem]
      intro x hx
      obtain ⟨j, h1, h2, _⟩ := mem_memb.1 hx
      rcases hg j (by omega) with h3 | ⟨k, h3, h4, _⟩ <;> omega
    simp [memb_succ, h, hno]
theorem grp_old {l : List Int} {i k : Nat} (h : labAt l i = (k : Int)) (hk : k < i) (hkk : labAt l k = (k : Int)) : grpE l (i + 1) = (grpE l i).set (heads l k).length (memb l (k : Int) i ++ [(i : Int)]) := by
  unfold grpE
  rw [heads_succ, if_neg (by omega)]
  have hat := heads_at hk hkk
  have hnd : (heads l i).Nodup := List.nodup_range.filter _
  apply List.ext_getElem?
  intro t
  rw [List.getElem?_set, List.length_map, List.getElem?_map, List.getElem?_map]
  have hlt := (List.getElem?_eq_some_iff.1 hat).1
  by_cases e : (heads l k).length = t
  · subst e
    rw [if_pos rfl, if_pos hlt, hat, Option.map_some, memb_succ, if_pos h]
  · rw [if_neg e]
    cases ht : (heads l i)[t]? with
    | none => rfl
    | some x =>
      simp only [Option.map_some]
      rw [memb_succ, if_neg]
      intro h2
      have : x = k := by omega
      subst this
      exact e ((List.getElem?_inj hlt hnd).1 (hat.trans ht.symm))
theorem grp_at {l : List Int} {i k : Nat} (hk : k < i) (hkk : labAt l k = (k : Int)) : (grpE l i)[(heads l k).length]? = some (memb l (k : Int) i) := by
  unfold grpE
  rw [List.getElem?_map, heads_at hk hkk]; rfl
end Go.Proofs.YthabfpagilbplaaDoor
