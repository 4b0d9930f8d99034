/- Chapter 19: judgements turned, plainly. -/
import Derived.Test.YthabfpagilbplaaDoorRu
set_option linter.unusedSimpArgs false
set_option linter.unusedVariables false
namespace Go.Proofs.YthabfpagilbplaaDoor
open Go Go.Sy Go.RowKit
theorem prC_map_le {α β : Type} [DecidableEq α] [DecidableEq β] (f : α → β) (l : List α) : prC l ≤ prC (l.map f) := by
  induction l with
  | nil => exact Nat.le_refl _
  | cons x l ih =>
    rw [List.map_cons, prC, prC]
    have := cnt_map_le f x l
    omega
theorem ddL_map {α β : Type} [DecidableEq α] [DecidableEq β] (f : α → β) (hf : ∀ x y, f x = f y → x = y) (l : List α) : ddL (l.map f) = (ddL l).map f := by
  induction l with
  | nil => rfl
  | cons x l ih =>
    rw [List.map_cons, ddL, ddL, ih]
    have e : f x ∈ (ddL l).map f ↔ x ∈ ddL l := by
      rw [List.mem_map]
      constructor
      · rintro ⟨y, hy, he⟩; rw [← hf y x he]; exact hy
      · intro h; exact ⟨x, h, rfl⟩
    by_cases h : x ∈ ddL l
    · rw [if_pos h, if_pos (e.2 h)]
    · rw [if_neg h, if_neg (fun h' => h (e.1 h'))]; rfl
/-- Pairs renamed. -/
theorem cubP_ren (π π' : Int × Int → Int) (F : Int × Int → Int × Int) (g : Int → Int) (hF : ∀ x y, F x = F y → x = y) (hg : ∀ x y, g x = g y → x = y) (h : ∀ p, π' (F p) = g (π p)) (ps : List (Int × Int)) : cubP π' (ps.map F) = cubP π ps := by
  have e1 : (ps.map F).map π' = (ps.map π).map g := by
    rw [List.map_map, List.map_map]
    exact List.map_congr_left fun p _ => h p
  have e2 : lam π' (ps.map F) = lam π ps := by
    unfold lam
    rw [e1, ddL_map g hg, List.map_map]
    refine congrArg lcmL (List.map_congr_left fun x _ => ?_)
    exact cnt_map g hg x _
  have e3 : vAll π' (ps.map F) = vAll π ps := by
    unfold vAll
    rw [e2]
    unfold sumN
    rw [List.map_map]
    refine congrArg List.sum (List.map_congr_left fun p _ => ?_)
    show cnt (F p) (ps.map F) * (_ / ownN _ _ (F p)) = _
    rw [cnt_map F hF]
    unfold ownN
    rw [e1, h p, cnt_map g hg]
  unfold cubP
  rw [e2, e3, List.length_map]
theorem lowest_self {n : Nat} (h : 0 < n) : lowest (n : Int) (n : Int) = (1, 1) := by
  rw [lowest_nat, Nat.gcd_self, Nat.div_self h]; rfl
theorem lowest_mul {n d : Nat} (hd : 0 < d) : lowest ((n * d : Nat) : Int) (d : Int) = ((n : Int), 1) := by
  rw [lowest_nat, Nat.gcd_mul_left_left, Nat.mul_div_cancel _ hd, Nat.div_self hd]; rfl
theorem cubP_diag (ks : List Int) (h : ks.length ≤ 256) (π : Int × Int → Int) (hπ : ∀ x, π (x, x) = x) : cubP π (ks.map fun x => (x, x)) = (1, 1) := by
  have hinj : ∀ x y : Int, (x, x) = (y, y) → x = y := fun x y h => (Prod.mk.inj h).1
  have e1 : (ks.map fun x => (x, x)).map π = ks := by
    rw [List.map_map]
    conv => rhs; rw [← List.map_id ks]
    exact List.map_congr_left fun x _ => hπ x
  obtain ⟨l1, l2, l3⟩ := lam_ok π (ks.map fun x => (x, x)) (by rw [List.length_map]; exact h)
  have e3 : vAll π (ks.map fun x => (x, x)) = ks.length * lam π (ks.map fun x => (x, x)) := by
    unfold vAll
    rw [sumN_congr (h := fun _ => lam π (ks.map fun x => (x, x))) fun p hp => ?_, sumN_const, List.length_map]
    have hd := l3 p hp
    obtain ⟨x, hx, rfl⟩ := List.mem_map.1 hp
    have e : cnt (x, x) (ks.map fun x => (x, x)) = ownN π (ks.map fun x => (x, x)) (x, x) := by
      unfold ownN
      rw [e1, hπ, cnt_map (fun x : Int => (x, x)) hinj]
    rw [e]
    exact Nat.mul_div_cancel' hd
  unfold cubP
  by_cases h0 : ks.length = 0
  · rw [if_pos (by rw [List.length_map]; exact h0)]
  · rw [if_neg (by rw [List.length_map]; exact h0), e3, lowest_mul l1, List.length_map]
    show lowest (ks.length : Int) (1 * (ks.length : Int)) = _
    rw [Int.one_mul, lowest_self (by omega)]
theorem share_ok {n d : Nat} (h : n ≤ d) : 1 ≤ (shareW (n : Int) (d : Int)).2 ∧ 0 ≤ (shareW (n : Int) (d : Int)).1 ∧ (shareW (n : Int) (d : Int)).1 ≤ (shareW (n : Int) (d : Int)).2 := by
  unfold shareW
  split
  · exact ⟨by decide, by decide, by decide⟩
  · have := lowest_ok (n := (n : Int)) (d := (d : Int)) (by omega) (by omega) (by omega)
    exact ⟨this.1, this.2.1, this.2.2.1⟩
theorem cubP_ok {π : Int × Int → Int} {ps : List (Int × Int)} (h : ps.length ≤ 256) : 1 ≤ (cubP π ps).2 ∧ 0 ≤ (cubP π ps).1 ∧ (cubP π ps).1 ≤ (cubP π ps).2 := by
  unfold cubP
  split
  · exact ⟨by decide, by decide, by decide⟩
  · obtain ⟨l1, l2, l3⟩ := lam_ok π ps h
    have hv : vAll π ps ≤ ps.length * lam π ps := by
      unfold vAll
      refine Nat.le_trans (sumN_le (h := fun _ => lam π ps) fun p hp => part_le π h hp) ?_
      rw [sumN_const]; exact Nat.le_refl _
    rw [lowest_nat]
    have hfr := FrOk.le (fr_of (M := lam π ps) (V := vAll π ps) (n := vAll π ps) (d := lam π ps) l1 (Nat.dvd_refl _) (by rw [Nat.div_self l1, Nat.mul_one])) l1 hv
    have hpos : 0 < lam π ps / Nat.gcd (vAll π ps) (lam π ps) := Nat.div_pos (Nat.le_of_dvd l1 (Nat.gcd_dvd_right _ _)) (Nat.gcd_pos_of_pos_right _ l1)
    dsimp only
    have hle : ((vAll π ps / Nat.gcd (vAll π ps) (lam π ps) : Nat) : Int) ≤ ((lam π ps / Nat.gcd (vAll π ps) (lam π ps) : Nat) : Int) * (ps.length : Int) := by
      rw [← Int.natCast_mul, Nat.mul_comm]
      exact Int.ofNat_le.2 hfr
    have hp2 : (0 : Int) < ((lam π ps / Nat.gcd (vAll π ps) (lam π ps) : Nat) : Int) * (ps.length : Int) := by
      rw [← Int.natCast_mul]
      exact Int.ofNat_lt.2 (Nat.mul_pos hpos (by omega))
    have := lowest_ok (Int.natCast_nonneg _) hle hp2
    exact ⟨this.1, this.2.1, this.2.2.1⟩
/-! Judgements. -/
def turnI (m : Int) (x : Int) : Int := (7 - x) * 5 + m
def turnG (m : Int) (x : Int) : Int := if 0 ≤ x then turnI m x else x
theorem turn_inj (m x y : Int) (h : turnI m x = turnI m y) : x = y := by unfold turnI at h; omega
theorem valV_turn {m : Int} (hm : 0 ≤ m) : ∀ (a b : List Int) (i : Nat), (∀ x ∈ a, x ≤ 7) → valV (a.map (turnG m)) b i = (valV a b i).map fun p => (turnI m p.1, p.2)
  | [], b, i, _ => by simp [valV]
  | x :: a, [], i, _ => by simp [valV]
  | x :: a, y :: b, 0, _ => rfl
  | x :: a, y :: b, i + 1, h => by
    have ih := valV_turn hm a b i fun z hz => h z (by simp [hz])
    have h7 := h x (by simp)
    unfold valV at ih ⊢
    rw [List.map_cons, List.zip_cons_cons, List.take_succ_cons, List.filter_cons, List.zip_cons_cons, List.take_succ_cons, List.filter_cons, ih]
    by_cases h0 : 0 ≤ x
    · have e : turnG m x = turnI m x := if_pos h0
      have hp : 0 ≤ turnI m x := by unfold turnI; omega
      rw [e]
      by_cases h1 : 0 ≤ y
      · rw [if_pos (by simp [okV, hp, h1]), if_pos (by simp [okV, h0, h1])]; rfl
      · rw [if_neg (by simp [okV]; omega), if_neg (by simp [okV]; omega)]
    · have e : turnG m x = x := if_neg h0
      rw [e, if_neg (by simp [okV]; omega), if_neg (by simp [okV]; omega)]
theorem valV_self : ∀ (a : List Int), valV a a a.length = (a.filter fun x => decide (0 ≤ x)).map fun x => (x, x)
  | [] => rfl
  | x :: a => by
    have ih := valV_self a
    unfold valV at ih ⊢
    rw [List.length_cons, List.zip_cons_cons, List.take_succ_cons, List.filter_cons, ih, List.filter_cons]
    by_cases h : 0 ≤ x
    · rw [if_pos (by simp [okV, h]), if_pos (by simpa using h)]; rfl
    · rw [if_neg (by simp [okV]; omega), if_neg (by simpa using h)]
theorem valV_none (a : List Int) (n i : Nat) : valV a (List.replicate n (-1)) i = [] := by
  unfold valV
  rw [List.filter_eq_nil_iff]
  intro p hp
  have := List.of_mem_zip (List.mem_of_mem_take hp)
  have h2 := List.eq_of_mem_replicate this.2
  simp [okV, h2]
/-- What a measure of judgements has. -/
structure Jd (E : List Int → List Int → ((Int × Int) × (Int × Int)) × Int) : Prop where
  turn : ∀ a b : List Int, a.length ≤ 256 → b.length = a.length → (∀ x ∈ a, -1 ≤ x) → (∀ x ∈ b, -1 ≤ x) → E b a = (((E a b).1.2, (E a b).1.1), 0) ∧ (E a b).2 = 0
  ren : ∀ (m : Int) (a b : List Int), 0 ≤ m → a.length ≤ 256 → b.length = a.length → (∀ x ∈ a, -1 ≤ x ∧ x ≤ 7) → (∀ x ∈ b, -1 ≤ x) → E (a.map (turnG m)) b = E a b
  self : ∀ a : List Int, a.length ≤ 256 → (∀ x ∈ a, -1 ≤ x) → E a a = (((1, 1), (1, 1)), 0)
  none : ∀ a : List Int, a.length ≤ 256 → (∀ x ∈ a, -1 ≤ x) → E a (List.replicate a.length (-1)) = (((1, 1), (1, 1)), 0)
  small : ∀ a b : List Int, a.length ≤ 256 → b.length = a.length → (∀ x ∈ a, -1 ≤ x) → (∀ x ∈ b, -1 ≤ x) → (1 ≤ (E a b).1.1.2 ∧ 0 ≤ (E a b).1.1.1 ∧ (E a b).1.1.1 ≤ (E a b).1.1.2) ∧ 1 ≤ (E a b).1.2.2 ∧ 0 ≤ (E a b).1.2.1 ∧ (E a b).1.2.1 ≤ (E a b).1.2.2
theorem wrong_zero {a b : List Int} (h1 : a.length ≤ 256) (h2 : b.length = a.length) (h3 : ∀ x ∈ a, -1 ≤ x) (h4 : ∀ x ∈ b, -1 ≤ x) : wrongW a b = 0 := by
  have l1 : a.any lowB = false := List.any_eq_false.2 fun x hx => by unfold lowB; have := h3 x hx; simp; omega
  have l2 : b.any lowB = false := List.any_eq_false.2 fun x hx => by unfold lowB; have := h4 x hx; simp; omega
  unfold wrongW
  rw [if_neg (by omega), if_neg (by rw [l1, l2]; simp; omega)]
theorem compareE_ok {a b : List Int} (h : wrongW a b = 0) : compareE a b = ((shareW (prC (valV a b a.length) : Nat) (prC ((valV a b a.length).map (·.1)) : Nat), shareW (prC (valV a b a.length) : Nat) (prC ((valV a b a.length).map (·.2)) : Nat)), 0) := by
  unfold compareE; rw [if_neg (by simp [h])]
theorem cubedE_ok {a b : List Int} (h : wrongW a b = 0) : cubedE a b = ((cubP (·.1) (valV a b a.length), cubP (·.2) (valV a b a.length)), 0) := by
  unfold cubedE; rw [if_neg (by simp [h])]
theorem turn_low {m : Int} (hm : 0 ≤ m) {a : List Int} (h : ∀ x ∈ a, -1 ≤ x ∧ x ≤ 7) : ∀ x ∈ a.map (turnG m), -1 ≤ x := fun x hx => by
  obtain ⟨y, hy, rfl⟩ := List.mem_map.1 hx
  have := h y hy
  unfold turnG turnI
  split <;> omega
theorem jd_compare : Jd compareE where
  turn a b h1 h2 h3 h4 := by
    have w1 := wrong_zero h1 h2 h3 h4
    have w2 := wrong_zero (a := b) (b := a) (by omega) h2.symm h4 h3
    rw [compareE_ok w1, compareE_ok w2, h2, valV_swap a b a.length (Nat.le_refl _) h2]
    refine ⟨?_, rfl⟩
    have e1 : ((valV a b a.length).map Prod.swap).map (·.1) = (valV a b a.length).map (·.2) := by rw [List.map_map]; rfl
    have e2 : ((valV a b a.length).map Prod.swap).map (·.2) = (valV a b a.length).map (·.1) := by rw [List.map_map]; rfl
    rw [e1, e2, prC_map Prod.swap swap_inj]
  ren m a b hm h1 h2 h3 h4 := by
    have w1 := wrong_zero h1 h2 (fun x hx => (h3 x hx).1) h4
    have w2 := wrong_zero (a := a.map (turnG m)) (b := b) (by rw [List.length_map]; exact h1) (by rw [List.length_map]; exact h2) (turn_low hm h3) h4
    rw [compareE_ok w1, compareE_ok w2, List.length_map, valV_turn hm a b a.length fun x hx => (h3 x hx).2]
    have e1 : ((valV a b a.length).map fun p => (turnI m p.1, p.2)).map (·.1) = ((valV a b a.length).map (·.1)).map (turnI m) := by rw [List.map_map, List.map_map]; rfl
    have e2 : ((valV a b a.length).map fun p => (turnI m p.1, p.2)).map (·.2) = (valV a b a.length).map (·.2) := by rw [List.map_map]; rfl
    rw [e1, e2, prC_map (turnI m) (turn_inj m), prC_map (fun p : Int × Int => (turnI m p.1, p.2)) fun x y h => Prod.ext (turn_inj m _ _ (Prod.mk.inj h).1) (Prod.mk.inj h).2]
  self a h1 h3 := by
    rw [compareE_ok (wrong_zero h1 rfl h3 h3), valV_self]
    generalize (a.filter fun x => decide (0 ≤ x)) = ks
    have e1 : (ks.map fun x => (x, x)).map (·.1) = ks := by rw [List.map_map]; exact List.map_id ks
    have e2 : (ks.map fun x => (x, x)).map (·.2) = ks := by rw [List.map_map]; exact List.map_id ks
    rw [e1, e2, prC_map (fun x : Int => (x, x)) fun x y h => (Prod.mk.inj h).1]
    have : shareW (prC ks : Nat) (prC ks : Nat) = (1, 1) := by
      unfold shareW
      split
      · rfl
      · exact lowest_self (by omega)
    rw [this]
  none a h1 h3 := by
    rw [compareE_ok (wrong_zero h1 (List.length_replicate) h3 fun x hx => by rw [List.eq_of_mem_replicate hx]; omega), valV_none]; rfl
  small a b h1 h2 h3 h4 := by
    rw [compareE_ok (wrong_zero h1 h2 h3 h4)]
    exact ⟨share_ok (prC_map_le _ _), share_ok (prC_map_le _ _)⟩
theorem jd_cubed : Jd cubedE where
  turn a b h1 h2 h3 h4 := by
    have w1 := wrong_zero h1 h2 h3 h4
    have w2 := wrong_zero (a := b) (b := a) (by omega) h2.symm h4 h3
    rw [cubedE_ok w1, cubedE_ok w2, h2, valV_swap a b a.length (Nat.le_refl _) h2]
    refine ⟨?_, rfl⟩
    rw [cubP_swap, cubP_ren (fun x => x.1) (fun x => x.2) Prod.swap id swap_inj (fun _ _ h => h) fun _ => rfl]
  ren m a b hm h1 h2 h3 h4 := by
    have w1 := wrong_zero h1 h2 (fun x hx => (h3 x hx).1) h4
    have w2 := wrong_zero (a := a.map (turnG m)) (b := b) (by rw [List.length_map]; exact h1) (by rw [List.length_map]; exact h2) (turn_low hm h3) h4
    have hG : ∀ x y : Int × Int, ((turnI m x.1, x.2) : Int × Int) = (turnI m y.1, y.2) → x = y := fun x y h => Prod.ext (turn_inj m _ _ (Prod.mk.inj h).1) (Prod.mk.inj h).2
    rw [cubedE_ok w1, cubedE_ok w2, List.length_map, valV_turn hm a b a.length fun x hx => (h3 x hx).2, cubP_ren (fun x => x.1) (fun x => x.1) _ (turnI m) hG (turn_inj m) fun _ => rfl, cubP_ren (fun x => x.2) (fun x => x.2) _ id hG (fun _ _ h => h) fun _ => rfl]
  self a h1 h3 := by
    rw [cubedE_ok (wrong_zero h1 rfl h3 h3), valV_self]
    have hl : (a.filter fun x => decide (0 ≤ x)).length ≤ 256 := Nat.le_trans (List.length_filter_le _ _) h1
    rw [cubP_diag _ hl _ fun _ => rfl, cubP_diag _ hl _ fun _ => rfl]
  none a h1 h3 := by
    rw [cubedE_ok (wrong_zero h1 (List.length_replicate) h3 fun x hx => by rw [List.eq_of_mem_replicate hx]; omega), valV_none]; rfl
  small a b h1 h2 h3 h4 := by
    rw [cubedE_ok (wrong_zero h1 h2 h3 h4)]
    have := valV_len a b a.length
    exact ⟨cubP_ok (by omega), cubP_ok (by omega)⟩
end Go.Proofs.YthabfpagilbplaaDoor
