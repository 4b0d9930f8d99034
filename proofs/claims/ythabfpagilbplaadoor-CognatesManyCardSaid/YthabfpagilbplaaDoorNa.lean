/- Chapter 19, plain: fractions; labels out of edges. -/
import Derived.Test.YthabfpagilbplaaDoorSyMem
set_option linter.unusedSimpArgs false
set_option linter.unusedVariables false
namespace Go.Sy
open Go
def leF (x y : Int × Int) : Bool := decide (x.1 * y.2 ≤ y.1 * x.2)
def cmpF (x y : Int × Int) : Int := if x.1 * y.2 < y.1 * x.2 then -1 else if x.1 * y.2 = y.1 * x.2 then 0 else 1
theorem cmpF_le (x y : Int × Int) : cmpF x y ≤ 0 ↔ leF x y = true := by
  unfold cmpF leF
  rw [decide_eq_true_eq]
  split
  · constructor <;> intros <;> omega
  · split
    · constructor <;> intros <;> omega
    · constructor <;> intros <;> omega
theorem cmpF_lt (x y : Int × Int) : cmpF x y < 0 ↔ leF y x = false := by
  unfold cmpF leF
  rw [decide_eq_false_iff_not]
  split
  · constructor <;> intros <;> omega
  · split
    · constructor <;> intros <;> omega
    · constructor <;> intros <;> omega
theorem cmpF_gt (x y : Int × Int) : cmpF x y > 0 ↔ leF x y = false := by
  unfold cmpF leF
  rw [decide_eq_false_iff_not]
  split
  · constructor <;> intros <;> omega
  · split
    · constructor <;> intros <;> omega
    · constructor <;> intros <;> omega
/-! ### Labels -/
def uniteL (l : List Int) (a b : Int) : List Int := l.map fun k => if k = a ∨ k = b then min a b else k
theorem uniteL_len (l : List Int) (a b : Int) : (uniteL l a b).length = l.length := by simp [uniteL]
theorem uniteL_self (l : List Int) (a : Int) : uniteL l a a = l := by
  unfold uniteL
  conv => rhs; rw [← List.map_id l]
  apply List.map_congr_left
  intro k _
  split
  · simp; omega
  · rfl
def labAt (l : List Int) (i : Nat) : Int := l[i]?.getD 0
def stepL (near : Nat → Nat → Bool) (l : List Int) (e : Nat × Nat) : List Int := if near e.1 e.2 then uniteL l (labAt l e.1) (labAt l e.2) else l
def aloneL (has : List Bool) : List Int := has.mapIdx fun i h => if h then (i : Int) else -1
inductive Conn (E : Nat → Nat → Prop) : Nat → Nat → Prop
  | refl (i) : Conn E i i
  | edge {i j} : E i j → Conn E i j
  | symm {i j} : Conn E i j → Conn E j i
  | trans {i j k} : Conn E i j → Conn E j k → Conn E i k
theorem Conn.mono {E E' : Nat → Nat → Prop} (h : ∀ i j, E i j → Conn E' i j) {i j : Nat} (c : Conn E i j) : Conn E' i j := by
  induction c with
  | refl i => exact .refl i
  | edge h1 => exact h _ _ h1
  | symm _ ih => exact .symm ih
  | trans _ _ ih1 ih2 => exact .trans ih1 ih2
structure Canon (has : List Bool) (E : Nat → Nat → Prop) (l : List Int) : Prop where
  len : l.length = has.length
  no : ∀ i, has[i]? = some false → labAt l i = -1
  yes : ∀ i, has[i]? = some true → ∃ k : Nat, labAt l i = (k : Int) ∧ k ≤ i ∧ has[k]? = some true ∧ labAt l k = (k : Int)
  conn : ∀ i j, has[i]? = some true → has[j]? = some true → (labAt l i = labAt l j ↔ Conn E i j)
theorem labAt_unite {l : List Int} {a b : Int} {i : Nat} (hi : i < l.length) : labAt (uniteL l a b) i = if labAt l i = a ∨ labAt l i = b then min a b else labAt l i := by
  unfold labAt uniteL
  rw [List.getElem?_map, List.getElem?_eq_getElem hi]; rfl
theorem Canon.alone (has : List Bool) : Canon has (fun _ _ => False) (aloneL has) := by
  have hat : ∀ i b, has[i]? = some b → labAt (aloneL has) i = if b then (i : Int) else -1 := fun i b h => by
    unfold labAt aloneL
    rw [List.getElem?_mapIdx, h]; rfl
  refine ⟨by simp [aloneL], fun i h => by rw [hat i _ h]; rfl, fun i h => ⟨i, by rw [hat i _ h]; rfl, Nat.le_refl _, h, by rw [hat i _ h]; rfl⟩, fun i j hi hj => ?_⟩
  rw [hat i _ hi, hat j _ hj]
  simp only [if_true]
  constructor
  · intro h
    have : i = j := by omega
    rw [this]; exact .refl j
  · intro h
    have : ∀ {i j : Nat}, Conn (fun _ _ => False) i j → i = j := fun c => by
      induction c with
      | refl i => rfl
      | edge h => exact h.elim
      | symm _ ih => exact ih.symm
      | trans _ _ a b => exact a.trans b
    rw [this h]
theorem Canon.unite {has : List Bool} {E : Nat → Nat → Prop} {l : List Int} (h : Canon has E l) {a b : Nat} (ha : has[a]? = some true) (hb : has[b]? = some true) : Canon has (fun i j => E i j ∨ (i = a ∧ j = b)) (uniteL l (labAt l a) (labAt l b)) := by
  have hlt : ∀ {i : Nat} {x : Bool}, has[i]? = some x → i < l.length := fun hi => by rw [h.len]; exact (List.getElem?_eq_some_iff.1 hi).1
  obtain ⟨p, p1, p2, p3, p4⟩ := h.yes a ha
  obtain ⟨q, q1, q2, q3, q4⟩ := h.yes b hb
  rw [p1, q1]
  have hm : min (p : Int) (q : Int) = ((min p q : Nat) : Int) := by omega
  have hmt : has[min p q]? = some true := by
    rcases Nat.le_total p q with h1 | h1
    · rw [Nat.min_eq_left h1]; exact p3
    · rw [Nat.min_eq_right h1]; exact q3
  have hml : labAt l (min p q) = ((min p q : Nat) : Int) := by
    rcases Nat.le_total p q with h1 | h1
    · rw [Nat.min_eq_left h1]; exact p4
    · rw [Nat.min_eq_right h1]; exact q4
  have up : ∀ {i j : Nat}, Conn E i j → Conn (fun i j => E i j ∨ (i = a ∧ j = b)) i j := fun c => c.mono fun i j h => .edge (.inl h)
  have cab : Conn (fun i j => E i j ∨ (i = a ∧ j = b)) a b := .edge (.inr ⟨rfl, rfl⟩)
  have at' : ∀ {i : Nat} {x : Bool}, has[i]? = some x → labAt (uniteL l p q) i = if labAt l i = p ∨ labAt l i = q then ((min p q : Nat) : Int) else labAt l i := fun hi => by rw [labAt_unite (hlt hi), hm]
  refine ⟨by rw [uniteL_len, h.len], fun i hi => ?_, fun i hi => ?_, fun i j hi hj => ?_⟩
  · rw [at' hi, h.no i hi, if_neg (by omega)]
  · obtain ⟨k, k1, k2, k3, k4⟩ := h.yes i hi
    rw [at' hi, k1]
    by_cases hc : (k : Int) = p ∨ (k : Int) = q
    · rw [if_pos hc]
      exact ⟨min p q, rfl, by omega, hmt, by rw [at' hmt, hml, if_pos (by omega)]⟩
    · rw [if_neg hc]
      exact ⟨k, rfl, k2, k3, by rw [at' k3, k4, if_neg hc]⟩
  · rw [at' hi, at' hj]
    constructor
    · intro he
      have inA : ∀ {x : Nat}, has[x]? = some true → (labAt l x = p ∨ labAt l x = q) → Conn (fun i j => E i j ∨ (i = a ∧ j = b)) x a := fun hx hc => by
        rcases hc with hc | hc
        · exact up ((h.conn _ a hx ha).1 (by rw [hc, p1]))
        · exact (up ((h.conn _ b hx hb).1 (by rw [hc, q1]))).trans cab.symm
      by_cases hc : labAt l i = p ∨ labAt l i = q
      · by_cases hd : labAt l j = p ∨ labAt l j = q
        · exact (inA hi hc).trans (inA hj hd).symm
        · rw [if_pos hc, if_neg hd] at he
          exact absurd he.symm (fun e => hd (by omega))
      · by_cases hd : labAt l j = p ∨ labAt l j = q
        · rw [if_neg hc, if_pos hd] at he
          exact absurd he (fun e => hc (by omega))
        · rw [if_neg hc, if_neg hd] at he
          exact up ((h.conn i j hi hj).1 he)
    · intro hc
      have key : ∀ {i j : Nat}, Conn (fun i j => E i j ∨ (i = a ∧ j = b)) i j → i = j ∨ Conn E i j ∨ ((Conn E i a ∨ Conn E i b) ∧ (Conn E j a ∨ Conn E j b)) := fun c => by
        induction c with
        | refl i => exact .inl rfl
        | edge h => rcases h with h | ⟨rfl, rfl⟩
                    · exact .inr (.inl (.edge h))
                    · exact .inr (.inr ⟨.inl (.refl _), .inr (.refl _)⟩)
        | symm _ ih =>
          rcases ih with rfl | ih | ih
          · exact .inl rfl
          · exact .inr (.inl ih.symm)
          · exact .inr (.inr ⟨ih.2, ih.1⟩)
        | trans _ _ ih1 ih2 =>
          rcases ih1 with rfl | ih1 | ih1
          · exact ih2
          · rcases ih2 with rfl | ih2 | ih2
            · exact .inr (.inl ih1)
            · exact .inr (.inl (ih1.trans ih2))
            · exact .inr (.inr ⟨ih2.1.imp ih1.trans ih1.trans, ih2.2⟩)
          · rcases ih2 with rfl | ih2 | ih2
            · exact .inr (.inr ih1)
            · exact .inr (.inr ⟨ih1.1, ih1.2.imp ih2.symm.trans ih2.symm.trans⟩)
            · exact .inr (.inr ⟨ih1.1, ih2.2⟩)
      have toL : ∀ {x : Nat}, has[x]? = some true → (Conn E x a ∨ Conn E x b) → labAt l x = p ∨ labAt l x = q := fun hx hc => by
        rcases hc with hc | hc
        · exact .inl (by rw [(h.conn _ a hx ha).2 hc, p1])
        · exact .inr (by rw [(h.conn _ b hx hb).2 hc, q1])
      rcases key hc with rfl | hc | ⟨h1, h2⟩
      · rfl
      · rw [(h.conn i j hi hj).2 hc]
      · rw [if_pos (toL hi h1), if_pos (toL hj h2)]
end Go.Sy
