/- Slices' cells; costs; the features of a set, in plain Lean. -/
import Derived.Test.YtedfogpnmpmggaaDoorPb
set_option linter.unusedSimpArgs false
set_option linter.unusedVariables false
namespace Go.Sy
open Go
/-- A slice's value. -/
def slv (p : Option Addr) (n cap : Nat) : Value := .slice (p.map fun a => a.add 0) n cap
theorem slv_eq (p : Option Addr) (n cap : Nat) : slv p n cap = .slice p n cap := by unfold slv; cases p <;> simp [addr_zero]
theorem map_add0 (p : Option Addr) : p.map (fun a => a.add (Int.toNat 0)) = p := by cases p <;> simp [addr_zero]
/-- From p on the cells read xs. -/
def Cells (R : Mv) (p : Option Addr) (xs : List Value) : Prop := ∀ (i : Nat) x, xs[i]? = some x → ∃ b o, p = some ⟨b, o, none⟩ ∧ R b (o + i) = some x
theorem Cells.mono {R S : Mv} {p : Option Addr} {xs : List Value} (h : Cells R p xs) (hle : R.le S) : Cells S p xs := fun i x hx => let ⟨b, o, h1, h2⟩ := h i x hx; ⟨b, o, h1, hle _ _ _ h2⟩
theorem Cells.some {R : Mv} {p : Option Addr} {xs : List Value} (h : Cells R p xs) {i : Nat} (hi : i < xs.length) : ∃ b o, p = some ⟨b, o, none⟩ := let ⟨b, o, h1, _⟩ := h i _ (List.getElem?_eq_getElem hi); ⟨b, o, h1⟩
section
variable {P : Program} {c : Cx} {L : List Nat} {ρ : Env} {blks : List Blk} {m : Mem} {R : Value → HW → Prop} {Dn : Nat → List U → HW → Prop} {A : List (List U → HW → Prop)}
/-- A load of a slice's cells. -/
theorem DenM.loadC {i : Nat} {off : IT} {sh : List Sh} {k : Tree} (us : List U) (p : Option Addr) (xs : List Value) (j : Nat) (hp : ρ.ptr i = p) (ho : off.eval ρ = j) (hus : Sh.eats sh us = some []) (hc : Good c L m → Cells (vw c L ρ blks m) p xs) (hj : j < xs.length)
    (hx : ∀ (q : Nat) v, (SV.dens L (ρ ++ us) (Sh.freshs sh ρ.length).1)[q]? = some v → xs[j + q]? = some v) (hk : DenM P R Dn k L (ρ ++ us) c m A) : DenM P R Dn (.load i off sh blks k) L ρ c m A := fun g => by
  obtain ⟨b, o, hpe⟩ := (hc g).some hj
  refine DenM.load us b (o + j) (usOk_of hus) ?_ (fun g q v hv => ?_) hk g
  · simp [atAddr, hp, hpe, ho, addr_add]
  · obtain ⟨b', o', h1, h2⟩ := hc g (j + q) v (hx q v hv)
    rw [hpe] at h1; cases h1
    rw [Nat.add_assoc]; exact h2
/-- Of one cell. -/
theorem DenM.load1 {i : Nat} {off : IT} {s : Sh} {k : Tree} (v : Value) (p : Option Addr) (xs : List Value) (j : Nat) (hp : ρ.ptr i = p) (ho : off.eval ρ = j) (hc : Good c L m → Cells (vw c L ρ blks m) p xs) (hx : xs[j]? = some v)
    (hk : DenM P R Dn k L (ρ ++ letU v) c m A) (hus : Sh.eats [s] (letU v) = some [] := by rfl) (hv : SV.dens L (ρ ++ letU v) (Sh.freshs [s] ρ.length).1 = [v] := by rfl) : DenM P R Dn (.load i off [s] blks k) L ρ c m A :=
  DenM.loadC (letU v) p xs j hp ho hus hc (List.getElem?_eq_some_iff.1 hx).1 (fun q w hw => by
    rw [hv] at hw
    cases q with
    | zero => simp at hw; subst hw; exact hx
    | succ q => simp at hw) hk
end
/-! Costs. -/
def costs (p : Option Addr) (n cap : Nat) (gap : Int) : Value := .agg #[slv p n cap, .int .i64 gap]
def CostsAt (R : Mv) (p : Option Addr) (ws : List Int) : Prop := Cells R p (ws.map (.int .i64))
def badW (w : Int) : Bool := decide (w < 0) || decide (w > 1073741824)
def checkC (ws : List Int) (gap : Int) : Int := if ws.length > 24 ∨ gap < 0 ∨ gap > 1073741824 ∨ ws.any badW = true then 2 else 0
theorem checkC_zero {ws : List Int} {gap : Int} (h : checkC ws gap = 0) : ws.length ≤ 24 ∧ 0 ≤ gap ∧ gap ≤ 1073741824 ∧ ∀ w ∈ ws, 0 ≤ w ∧ w ≤ 1073741824 := by
  unfold checkC at h
  split at h
  · cases h
  · rename_i hn
    simp only [not_or, List.any_eq_true, not_exists, not_and] at hn
    refine ⟨by omega, by omega, by omega, fun w hw => ?_⟩
    have := hn.2.2.2 w hw
    simp [badW] at this
    omega
theorem checkC_range (ws : List Int) (gap : Int) : checkC ws gap = 2 ∨ checkC ws gap = 0 := by unfold checkC; split <;> simp
/-- The weights of the features in which two sounds differ. -/
def sumW (n : Nat) : List Int → Int
  | [] => 0
  | w :: ws => (if n.testBit 0 = true then w else 0) + sumW (n / 2) ws
theorem sumW_snoc (n : Nat) (ws : List Int) (w : Int) : sumW n (ws ++ [w]) = sumW n ws + if n.testBit ws.length = true then w else 0 := by
  induction ws generalizing n with
  | nil => simp [sumW]
  | cons x ws ih =>
    simp only [List.cons_append, sumW, ih, List.length_cons, Nat.testBit_succ]
    omega
theorem sumW_bound (n : Nat) (ws : List Int) (h : ∀ w ∈ ws, 0 ≤ w ∧ w ≤ 1073741824) : 0 ≤ sumW n ws ∧ sumW n ws ≤ 1073741824 * ws.length := by
  induction ws generalizing n with
  | nil => simp [sumW]
  | cons x ws ih =>
    have hx := h x (by simp)
    have := ih (n / 2) fun w hw => h w (by simp [hw])
    simp only [sumW, List.length_cons]
    split <;> omega
def distC (s t : Snd) (ws : List Int) (gap : Int) : Int × Int := if valid s = false ∨ valid t = false then (0, 14) else if checkC ws gap ≠ 0 then (0, checkC ws gap) else (sumW (diffS s t) ws, 0)
/-! The features of a set. -/
def bitsL (n : Nat) : List Nat := (List.range 32).filter fun i => n.testBit i
theorem bitsL_zero : bitsL 0 = [] := by decide
theorem clear_low (k m : Nat) : (2 ^ k * (2 * m + 1)) &&& (2 ^ k * (2 * m + 1) - 1) = 2 ^ k * (2 * m) := by
  have hk : 0 < 2 ^ k := Nat.two_pow_pos k
  have hn : 2 ^ k * (2 * m + 1) - 1 = 2 ^ k * (2 * m) + (2 ^ k - 1) := by rw [Nat.mul_add]; omega
  apply Nat.eq_of_testBit_eq
  intro i
  rw [Nat.testBit_and, hn, Nat.testBit_two_pow_mul_add _ (by omega), Nat.testBit_two_pow_mul, Nat.testBit_two_pow_mul, Nat.testBit_two_pow_sub_one]
  rcases Nat.lt_trichotomy i k with hi | rfl | hi
  · have : ¬ i ≥ k := by omega
    simp [this]
  · simp [Nat.mul_comm 2 m]
  · have h1 : ¬ i < k := by omega
    have h2 : i ≥ k := by omega
    obtain ⟨j, hj⟩ : ∃ j, i - k = j + 1 := ⟨i - k - 1, by omega⟩
    have h3 : (2 * m + 1).testBit (i - k) = m.testBit j := by rw [hj, Nat.testBit_succ]; congr 1; omega
    have h4 : (2 * m).testBit (i - k) = m.testBit j := by rw [hj, Nat.testBit_succ]; congr 1; omega
    simp only [h1, h2, h3, h4, if_false, decide_true, Bool.true_and, Bool.and_self]
theorem bitsL_low {k m : Nat} (hk : k < 32) : bitsL (2 ^ k * (2 * m + 1)) = k :: bitsL (2 ^ k * (2 * m)) := by
  have hsplit : List.range 32 = List.range k ++ k :: List.range' (k + 1) (31 - k) := by
    rw [List.range_eq_range', List.range_eq_range']
    have h1 : List.range' 0 32 = List.range' 0 k ++ List.range' k (32 - k) := by
      have := List.range'_append (s := 0) (m := k) (n := 32 - k) (step := 1)
      rw [show k + (32 - k) = 32 by omega] at this
      simpa using this.symm
    rw [h1]
    congr 1
    have : 32 - k = (31 - k) + 1 := by omega
    rw [this, List.range'_succ]
  have low : ∀ i ∈ List.range k, (2 ^ k * (2 * m + 1)).testBit i = false ∧ (2 ^ k * (2 * m)).testBit i = false := fun i hi => by
    have hi : i < k := by simpa using hi
    have : ¬ i ≥ k := by omega
    simp [Nat.testBit_two_pow_mul, this]
  have at' : (2 ^ k * (2 * m + 1)).testBit k = true ∧ (2 ^ k * (2 * m)).testBit k = false := by
    simp [Nat.testBit_two_pow_mul]
  have high : ∀ i ∈ List.range' (k + 1) (31 - k), (2 ^ k * (2 * m + 1)).testBit i = (2 ^ k * (2 * m)).testBit i := fun i hi => by
    have hi : k + 1 ≤ i := (List.mem_range'_1.1 hi).1
    have h2 : i ≥ k := by omega
    obtain ⟨j, hj⟩ : ∃ j, i - k = j + 1 := ⟨i - k - 1, by omega⟩
    have h3 : (2 * m + 1).testBit (i - k) = m.testBit j := by rw [hj, Nat.testBit_succ]; congr 1; omega
    have h4 : (2 * m).testBit (i - k) = m.testBit j := by rw [hj, Nat.testBit_succ]; congr 1; omega
    rw [Nat.testBit_two_pow_mul, Nat.testBit_two_pow_mul, h3, h4]
  unfold bitsL
  rw [hsplit, List.filter_append, List.filter_append, List.filter_cons, List.filter_cons, at'.1, at'.2]
  have e1 : (List.range k).filter (fun i => (2 ^ k * (2 * m + 1)).testBit i) = [] := List.filter_eq_nil_iff.2 (fun i hi => by rw [(low i hi).1]; simp)
  have e2 : (List.range k).filter (fun i => (2 ^ k * (2 * m)).testBit i) = [] := List.filter_eq_nil_iff.2 (fun i hi => by rw [(low i hi).2]; simp)
  rw [e1, e2]
  simp only [List.nil_append, if_true, Bool.false_eq_true, if_false]
  congr 1
  exact List.filter_congr fun i hi => high i hi
/-- What a walk over the features adds up. -/
def addW (ws : List Int) : Int → List Nat → Int
  | s, [] => s
  | s, f :: l => addW ws (s + (ws[f]?).getD 0) l
theorem addW_add (ws : List Int) (s : Int) (l : List Nat) : addW ws s l = s + addW ws 0 l := by
  induction l generalizing s with
  | nil => simp [addW]
  | cons f l ih => simp only [addW]; rw [ih, ih (0 + _)]; omega
theorem addW_append (ws : List Int) (s : Int) (l l' : List Nat) : addW ws s (l ++ l') = addW ws (addW ws s l) l' := by
  induction l generalizing s with
  | nil => rfl
  | cons f l ih => simp only [List.cons_append, addW]; exact ih _
theorem addW_bitsL (n : Nat) (ws : List Int) (h : ws.length ≤ 32) : addW ws 0 (bitsL n) = sumW n ws := by
  have key : ∀ j, j ≤ 32 → addW ws 0 ((List.range j).filter fun i => n.testBit i) = sumW n (ws.take j) := by
    intro j
    induction j with
    | zero => intro _; simp [addW, sumW]
    | succ j ih =>
      intro hj
      rw [List.range_succ, List.filter_append, addW_append, ih (by omega)]
      by_cases hl : j < ws.length
      · rw [List.take_succ_eq_append_getElem hl, sumW_snoc]
        have : (ws.take j).length = j := by simp; omega
        rw [this]
        by_cases hb : n.testBit j = true
        · simp [hb, addW, hl]
        · simp [hb, addW]
      · have e1 : ws.take (j + 1) = ws := List.take_of_length_le (by omega)
        have e2 : ws.take j = ws := List.take_of_length_le (by omega)
        rw [e1, e2]
        by_cases hb : n.testBit j = true
        · simp [hb, addW, List.getElem?_eq_none (by omega : ws.length ≤ j)]
        · simp [hb, addW]
  have := key 32 (by omega)
  rw [List.take_of_length_le h] at this
  exact this
theorem addW_bound (ws : List Int) (h : ∀ w ∈ ws, 0 ≤ w ∧ w ≤ 1073741824) (l : List Nat) : 0 ≤ addW ws 0 l ∧ addW ws 0 l ≤ 1073741824 * l.length := by
  induction l with
  | nil => simp [addW]
  | cons f l ih =>
    have : 0 ≤ (ws[f]?).getD 0 ∧ (ws[f]?).getD 0 ≤ 1073741824 := by
      cases e : ws[f]? with
      | none => simp
      | some w => exact h w (List.mem_of_getElem? e)
    simp only [addW, List.length_cons]
    rw [addW_add]
    omega
theorem bitsL_len (n : Nat) : (bitsL n).length ≤ 32 := by
  have := List.length_filter_le (fun i => n.testBit i) (List.range 32)
  simpa [bitsL] using this
end Go.Sy
