/- Alignments of two words in plain Lean: smallest costs, their number, the first of them; common subsequences. -/
import Derived.Test.YtedfogpnmpmggaaDoorPc
set_option linter.unusedSimpArgs false
set_option linter.unusedVariables false
namespace Go.Sy
open Go
theorem pair_ind {α β : Type} {M : List α → List β → Prop} (h0 : M [] []) (h1 : ∀ y b, M [] b → M [] (y :: b)) (h2 : ∀ x a, M a [] → M (x :: a) []) (h3 : ∀ x a y b, M a b → M a (y :: b) → M (x :: a) b → M (x :: a) (y :: b)) : ∀ a b, M a b
  | [], [] => h0
  | [], y :: b => h1 y b (pair_ind h0 h1 h2 h3 [] b)
  | x :: a, [] => h2 x a (pair_ind h0 h1 h2 h3 a [])
  | x :: a, y :: b => h3 x a y b (pair_ind h0 h1 h2 h3 a b) (pair_ind h0 h1 h2 h3 a (y :: b)) (pair_ind h0 h1 h2 h3 (x :: a) b)
section
variable (d : Snd → Snd → Int) (g : Int)
def rst0 : List Snd → Int
  | [] => 0
  | _ :: b => g + rst0 b
def rst1 (x : Snd) (f : List Snd → Int) : List Snd → Int
  | [] => g + f []
  | y :: b => min (min (d x y + f b) (g + f (y :: b))) (g + rst1 x f b)
/-- The smallest cost of an alignment. -/
def rst : List Snd → List Snd → Int
  | [] => rst0 g
  | x :: a => rst1 d g x (rst a)
theorem rst_nn : rst d g [] [] = 0 := rfl
theorem rst_nc (y : Snd) (b : List Snd) : rst d g [] (y :: b) = g + rst d g [] b := rfl
theorem rst_cn (x : Snd) (a : List Snd) : rst d g (x :: a) [] = g + rst d g a [] := rfl
theorem rst_cc (x : Snd) (a : List Snd) (y : Snd) (b : List Snd) : rst d g (x :: a) (y :: b) = min (min (d x y + rst d g a b) (g + rst d g a (y :: b))) (g + rst d g (x :: a) b) := rfl
variable {d g}
theorem rst_del (x : Snd) (a b : List Snd) : rst d g (x :: a) b ≤ g + rst d g a b := by
  cases b with
  | nil => rw [rst_cn]; omega
  | cons y b => rw [rst_cc]; omega
theorem rst_ins (y : Snd) (a b : List Snd) : rst d g a (y :: b) ≤ g + rst d g a b := by
  cases a with
  | nil => rw [rst_nc]; omega
  | cons x a => rw [rst_cc]; omega
theorem rst_sub (x : Snd) (a : List Snd) (y : Snd) (b : List Snd) : rst d g (x :: a) (y :: b) ≤ d x y + rst d g a b := by
  rw [rst_cc]; omega
/-- The first step of an alignment of the smallest cost. -/
theorem rst_cases (a b : List Snd) : (a = [] ∧ b = []) ∨ (∃ x a', a = x :: a' ∧ rst d g a b = g + rst d g a' b) ∨ (∃ y b', b = y :: b' ∧ rst d g a b = g + rst d g a b') ∨ ∃ x a' y b', a = x :: a' ∧ b = y :: b' ∧ rst d g a b = d x y + rst d g a' b' := by
  cases a with
  | nil =>
    cases b with
    | nil => exact .inl ⟨rfl, rfl⟩
    | cons y b => exact .inr (.inr (.inl ⟨y, b, rfl, rfl⟩))
  | cons x a =>
    cases b with
    | nil => exact .inr (.inl ⟨x, a, rfl, rfl⟩)
    | cons y b =>
      have h := rst_cc d g x a y b
      by_cases h1 : rst d g (x :: a) (y :: b) = g + rst d g a (y :: b)
      · exact .inr (.inl ⟨x, a, rfl, h1⟩)
      · by_cases h2 : rst d g (x :: a) (y :: b) = g + rst d g (x :: a) b
        · exact .inr (.inr (.inl ⟨y, b, rfl, h2⟩))
        · exact .inr (.inr (.inr ⟨x, a, y, b, rfl, rfl, by omega⟩))
theorem rst_pos (hg : 0 ≤ g) (hd : ∀ x y, 0 ≤ d x y) (a b : List Snd) : 0 ≤ rst d g a b := by
  refine pair_ind (M := fun a b => 0 ≤ rst d g a b) ?_ ?_ ?_ ?_ a b
  · rw [rst_nn]; exact Int.le_refl 0
  · intro y b h; rw [rst_nc]; omega
  · intro x a h; rw [rst_cn]; omega
  · intro x a y b h1 h2 h3; have := hd x y; rw [rst_cc]; omega
theorem rst_le (a b : List Snd) : rst d g a b ≤ g * (a.length + b.length : Nat) := by
  refine pair_ind (M := fun a b => rst d g a b ≤ g * (a.length + b.length : Nat)) ?_ ?_ ?_ ?_ a b
  · simp [rst_nn]
  · intro y b h
    have := rst_ins (d := d) (g := g) y [] b
    rw [List.length_cons, show ([] : List Snd).length + (b.length + 1) = ([] : List Snd).length + b.length + 1 by omega, Int.natCast_add, Int.mul_add]; omega
  · intro x a h
    have := rst_del (d := d) (g := g) x a []
    rw [List.length_cons, show a.length + 1 + ([] : List Snd).length = a.length + ([] : List Snd).length + 1 by omega, Int.natCast_add, Int.mul_add]; omega
  · intro x a y b _ h _
    have := rst_del (d := d) (g := g) x a (y :: b)
    rw [List.length_cons (a := x), show a.length + 1 + (y :: b).length = a.length + (y :: b).length + 1 by omega, Int.natCast_add, Int.mul_add]; omega
theorem rst_comm (hd : ∀ x y, d x y = d y x) (a b : List Snd) : rst d g a b = rst d g b a := by
  refine pair_ind (M := fun a b => rst d g a b = rst d g b a) rfl ?_ ?_ ?_ a b
  · intro y b h; rw [rst_nc, rst_cn, h]
  · intro x a h; rw [rst_nc, rst_cn, h]
  · intro x a y b h1 h2 h3; rw [rst_cc, rst_cc, h1, h2, h3, hd x y]; omega
theorem rst_self (hg : 0 ≤ g) (hd : ∀ x y, 0 ≤ d x y) (h0 : ∀ x, d x x = 0) (a : List Snd) : rst d g a a = 0 := by
  induction a with
  | nil => rfl
  | cons x a ih =>
    have h1 := rst_sub (d := d) (g := g) x a x a
    have h2 := rst_pos hg hd (x :: a) (x :: a)
    have := h0 x
    omega
theorem rst_tri (hg : 0 ≤ g) (hd : ∀ x y, 0 ≤ d x y) (ht : ∀ x y z, d x z ≤ d x y + d y z) : ∀ (n : Nat) (a w b : List Snd), a.length + w.length + b.length = n → rst d g a b ≤ rst d g a w + rst d g w b := by
  intro n
  induction n using Nat.strongRecOn with
  | _ n ih =>
    intro a w b hn
    rcases rst_cases (d := d) (g := g) a w with ⟨rfl, rfl⟩ | ⟨x, a', rfl, e1⟩ | h
    · rw [rst_nn]; omega
    · have := ih _ (by simp at hn; omega) a' w b rfl
      have := rst_del (d := d) (g := g) x a' b
      omega
    · obtain ⟨z, w', rfl⟩ : ∃ z w', w = z :: w' := by
        rcases h with ⟨z, w', rfl, _⟩ | ⟨_, _, z, w', _, rfl, _⟩ <;> exact ⟨z, w', rfl⟩
      rcases rst_cases (d := d) (g := g) (z :: w') b with ⟨h', _⟩ | ⟨z', w'', h', e2⟩ | ⟨y, b', rfl, e2⟩ | ⟨z', w'', y, b', h', rfl, e2⟩
      · cases h'
      · cases h'
        rcases h with ⟨z', w'', h', e1⟩ | ⟨x, a', z', w'', rfl, h', e1⟩
        · cases h'
          have := ih _ (by simp at hn; omega) a w' b rfl
          omega
        · cases h'
          have := ih _ (by simp at hn; omega) a' w' b rfl
          have := rst_del (d := d) (g := g) x a' b
          have := hd x z
          omega
      · have := ih _ (by simp at hn ⊢; omega) a (z :: w') b' rfl
        have := rst_ins (d := d) (g := g) y a b'
        omega
      · cases h'
        rcases h with ⟨z', w'', h', e1⟩ | ⟨x, a', z', w'', rfl, h', e1⟩
        · cases h'
          have := ih _ (by simp at hn; omega) a w' b' rfl
          have := rst_ins (d := d) (g := g) y a b'
          have := hd z y
          omega
        · cases h'
          have := ih _ (by simp at hn; omega) a' w' b' rfl
          have := rst_sub (d := d) (g := g) x a' y b'
          have := ht x z y
          omega
theorem rst_triangle (hg : 0 ≤ g) (hd : ∀ x y, 0 ≤ d x y) (ht : ∀ x y z, d x z ≤ d x y + d y z) (a w b : List Snd) : rst d g a b ≤ rst d g a w + rst d g w b := rst_tri hg hd ht _ a w b rfl
theorem rst_front (hg : 0 ≤ g) (hd : ∀ x y, 0 ≤ d x y) (h0 : ∀ x, d x x = 0) (ht : ∀ x y z, d x z ≤ d x y + d y z) (s : Snd) (a b : List Snd) : rst d g (s :: a) (s :: b) = rst d g a b := by
  have h1 := rst_sub (d := d) (g := g) s a s b
  have h2 := rst_triangle hg hd ht a (s :: b) b
  have h3 := rst_del (d := d) (g := g) s b b
  have h4 := rst_triangle hg hd ht a (s :: a) b
  have h5 := rst_ins (d := d) (g := g) s a a
  rw [rst_self hg hd h0] at h3 h5
  have := h0 s
  rw [rst_cc] at h1 ⊢
  omega
theorem rst_end1 (hg : 0 ≤ g) (hd : ∀ x y, 0 ≤ d x y) (h0 : ∀ x, d x x = 0) (s : Snd) (a : List Snd) : rst d g (a ++ [s]) a ≤ g ∧ rst d g a (a ++ [s]) ≤ g := by
  induction a with
  | nil => constructor <;> simp [rst_nn, rst_cn, rst_nc]
  | cons x a ih =>
    have h1 := rst_sub (d := d) (g := g) x (a ++ [s]) x a
    have h2 := rst_sub (d := d) (g := g) x a x (a ++ [s])
    have := h0 x
    simp only [List.cons_append]
    omega
theorem rst_end (hg : 0 ≤ g) (hd : ∀ x y, 0 ≤ d x y) (h0 : ∀ x, d x x = 0) (ht : ∀ x y z, d x z ≤ d x y + d y z) (s : Snd) (a b : List Snd) : rst d g (a ++ [s]) b ≤ rst d g a b + g ∧ rst d g a b - g ≤ rst d g (a ++ [s]) b := by
  have h1 := rst_triangle hg hd ht (a ++ [s]) a b
  have h2 := rst_triangle hg hd ht a (a ++ [s]) b
  have := rst_end1 hg hd h0 s a
  omega
end
/-! The longest common subsequence. -/
def lcs1 (x : Snd) (f : List Snd → Nat) : List Snd → Nat
  | [] => 0
  | y :: b => if x = y then 1 + f b else max (f (y :: b)) (lcs1 x f b)
def lcs : List Snd → List Snd → Nat
  | [] => fun _ => 0
  | x :: a => lcs1 x (lcs a)
theorem lcs_nil (b : List Snd) : lcs [] b = 0 := rfl
theorem lcs_cn (x : Snd) (a : List Snd) : lcs (x :: a) [] = 0 := rfl
theorem lcs_cc (x : Snd) (a : List Snd) (y : Snd) (b : List Snd) : lcs (x :: a) (y :: b) = if x = y then 1 + lcs a b else max (lcs a (y :: b)) (lcs (x :: a) b) := rfl
/-- One sound more. -/
theorem lcs_more (a b : List Snd) : (∀ x, lcs a b ≤ lcs (x :: a) b ∧ lcs (x :: a) b ≤ 1 + lcs a b) ∧ ∀ y, lcs a b ≤ lcs a (y :: b) ∧ lcs a (y :: b) ≤ 1 + lcs a b := by
  refine pair_ind (M := fun a b => (∀ x, lcs a b ≤ lcs (x :: a) b ∧ lcs (x :: a) b ≤ 1 + lcs a b) ∧ ∀ y, lcs a b ≤ lcs a (y :: b) ∧ lcs a (y :: b) ≤ 1 + lcs a b) ?_ ?_ ?_ ?_ a b
  · simp [lcs_nil, lcs_cn]
  · intro y b h
    refine ⟨fun x => ?_, by simp [lcs_nil]⟩
    have := (h.1 x)
    rw [lcs_cc]
    simp only [lcs_nil] at *
    split <;> omega
  · intro x a h
    refine ⟨by simp [lcs_cn], fun y => ?_⟩
    have := (h.2 y)
    have e : lcs a [] = 0 := by cases a <;> rfl
    rw [lcs_cc]
    simp only [lcs_cn, e] at *
    split <;> omega
  · intro x a y b h1 h2 h3
    refine ⟨fun z => ?_, fun z => ?_⟩
    · have k1 := h3.1 z
      have k2 := h2.1 z
      have k3 := h2.1 x
      have k4 := h1.2 y
      have k5 := h1.1 x
      have k6 := h3.2 y
      rw [lcs_cc z (x :: a) y b]
      split <;> omega
    · have k1 := h2.2 z
      have k3 := h3.2 y
      have k4 := h1.2 y
      have k5 := h1.1 x
      have k6 := h3.2 z
      have k7 := h2.1 x
      rw [lcs_cc x a z (y :: b)]
      split <;> omega
theorem lcs_comm (a b : List Snd) : lcs a b = lcs b a := by
  refine pair_ind (M := fun a b => lcs a b = lcs b a) rfl ?_ ?_ ?_ a b
  · intro y b _; rfl
  · intro x a _; rfl
  · intro x a y b h1 h2 h3
    rw [lcs_cc, lcs_cc, h1, h2, h3]
    by_cases e : x = y
    · rw [if_pos e, if_pos e.symm]
    · rw [if_neg e, if_neg (Ne.symm e), Nat.max_comm]
theorem lcs_le (a b : List Snd) : lcs a b ≤ a.length ∧ lcs a b ≤ b.length := by
  refine pair_ind (M := fun a b => lcs a b ≤ a.length ∧ lcs a b ≤ b.length) ?_ ?_ ?_ ?_ a b
  · simp [lcs_nil]
  · intro y b _; simp [lcs_nil]
  · intro x a _; simp [lcs_cn]
  · intro x a y b h1 h2 h3
    simp only [List.length_cons] at *
    rw [lcs_cc]; split <;> omega
theorem rst_lcs {d : Snd → Snd → Int} {g : Int} (hg : 0 ≤ g) (hd : ∀ x y, 0 ≤ d x y) (h0 : ∀ x, d x x = 0) (ht : ∀ x y z, d x z ≤ d x y + d y z) (a b : List Snd) (h2 : ∀ x ∈ a, ∀ y ∈ b, x ≠ y → 2 * g ≤ d x y) : rst d g a b + 2 * (g * (lcs a b : Int)) = g * (a.length : Int) + g * (b.length : Int) := by
  have L : ∀ (z : Snd) (c : List Snd), g * ((z :: c).length : Int) = g * (c.length : Int) + g := fun z c => by rw [List.length_cons, Int.natCast_add, Int.mul_add]; simp
  revert h2
  refine pair_ind (M := fun a b => (∀ x ∈ a, ∀ y ∈ b, x ≠ y → 2 * g ≤ d x y) → rst d g a b + 2 * (g * (lcs a b : Int)) = g * (a.length : Int) + g * (b.length : Int)) ?_ ?_ ?_ ?_ a b
  · intro _; simp [rst_nn, lcs_nil]
  · intro y b h _
    replace h := h (by simp)
    rw [lcs_nil] at h ⊢
    rw [rst_nc, L]; omega
  · intro x a h _
    replace h := h (by simp)
    have e : lcs a [] = 0 := by cases a <;> rfl
    rw [e] at h
    rw [lcs_cn, rst_cn, L]; omega
  · intro x a y b k1 k2 k3 h2
    replace k1 := k1 fun s hs t ht => h2 s (by simp [hs]) t (by simp [ht])
    replace k2 := k2 fun s hs t ht => h2 s (by simp [hs]) t ht
    replace k3 := k3 fun s hs t ht => h2 s hs t (by simp [ht])
    rw [L, L]
    rw [L] at k2 k3
    by_cases e : x = y
    · subst e
      have : g * ((1 + lcs a b : Nat) : Int) = g + g * (lcs a b : Int) := by rw [Int.natCast_add, Int.mul_add]; simp
      rw [rst_front hg hd h0 ht, lcs_cc, if_pos rfl, this]
      omega
    · rw [rst_cc, lcs_cc, if_neg e]
      have m1 := (lcs_more a b).1 x
      have m2 := (lcs_more a b).2 y
      have := h2 x (by simp) y (by simp) e
      have q1 : g * (lcs a b : Int) ≤ g * (lcs a (y :: b) : Int) := Int.mul_le_mul_of_nonneg_left (by omega) hg
      have q2 : g * (lcs a b : Int) ≤ g * (lcs (x :: a) b : Int) := Int.mul_le_mul_of_nonneg_left (by omega) hg
      rcases Nat.le_total (lcs a (y :: b)) (lcs (x :: a) b) with hm | hm
      · have q3 : g * (lcs a (y :: b) : Int) ≤ g * (lcs (x :: a) b : Int) := Int.mul_le_mul_of_nonneg_left (by omega) hg
        rw [Nat.max_eq_right hm]
        omega
      · have q3 : g * (lcs (x :: a) b : Int) ≤ g * (lcs a (y :: b) : Int) := Int.mul_le_mul_of_nonneg_left (by omega) hg
        rw [Nat.max_eq_left hm]
        omega
theorem rst_congr {d d' : Snd → Snd → Int} {g : Int} (a b : List Snd) (h : ∀ x ∈ a, ∀ y ∈ b, d x y = d' x y) : rst d g a b = rst d' g a b := by
  revert h
  refine pair_ind (M := fun a b => (∀ x ∈ a, ∀ y ∈ b, d x y = d' x y) → rst d g a b = rst d' g a b) ?_ ?_ ?_ ?_ a b
  · intro _; rfl
  · intro y b k _; rw [rst_nc, rst_nc, k (by simp)]
  · intro x a k _; rw [rst_cn, rst_cn, k (by simp)]
  · intro x a y b k1 k2 k3 h
    rw [rst_cc, rst_cc, k1 fun s hs t ht => h s (by simp [hs]) t (by simp [ht]), k2 fun s hs t ht => h s (by simp [hs]) t ht, k3 fun s hs t ht => h s hs t (by simp [ht]), h x (by simp) y (by simp)]
end Go.Sy
namespace Go.Sy
open Go
/-! Words: their errors; steps of alignments; the number of the cheapest alignments; the first of them; the cost of any. -/
def checkW (w : List Snd) : Int := if w.length > 32 then 11 else if w.all valid = true then 0 else 14
theorem checkW_zero {w : List Snd} (h : checkW w = 0) : w.length ≤ 32 ∧ ∀ s ∈ w, valid s = true := by
  unfold checkW at h
  split at h
  · cases h
  · split at h
    · rename_i h1 h2; exact ⟨by omega, fun s hs => List.all_eq_true.1 h2 s hs⟩
    · cases h
/-- The first error of some words. -/
def checkL : List (List Snd) → Int
  | [] => 0
  | w :: l => if checkW w ≠ 0 then checkW w else checkL l
def checkE (ws : List Int) (gap : Int) (l : List (List Snd)) : Int := if checkC ws gap ≠ 0 then checkC ws gap else checkL l
abbrev Stp := Nat × Nat × Int
section
variable (d : Snd → Snd → Int) (g : Int) (a b : List Snd)
/-- The smallest cost from two places on. -/
def RA (i j : Nat) : Int := rst d g (a.drop i) (b.drop j)
def stepsA (i j : Nat) : List Stp :=
  match a[i]?, b[j]? with
  | some x, some y => [(i + 1, j + 1, d x y), (i + 1, j, g), (i, j + 1, g)]
  | some _, none => [(i + 1, j, g)]
  | none, some _ => [(i, j + 1, g)]
  | none, none => []
def minL : List Int → Int
  | [] => 0
  | x :: l => l.foldl min x
theorem RA_steps (i j : Nat) : RA d g a b i j = minL ((stepsA d g a b i j).map fun x => x.2.2 + RA d g a b x.1 x.2.1) := by
  unfold stepsA
  rcases Nat.lt_or_ge i a.length with hi | hi <;> rcases Nat.lt_or_ge j b.length with hj | hj
  · rw [List.getElem?_eq_getElem hi, List.getElem?_eq_getElem hj]
    simp only [RA, List.drop_eq_getElem_cons hi, List.drop_eq_getElem_cons hj, rst_cc, List.map_cons, List.map_nil, minL, List.foldl_cons, List.foldl_nil]
  · rw [List.getElem?_eq_getElem hi, List.getElem?_eq_none hj]
    simp only [RA, List.drop_eq_getElem_cons hi, List.drop_of_length_le hj, rst_cn, List.map_cons, List.map_nil, minL, List.foldl_nil]
  · rw [List.getElem?_eq_none hi, List.getElem?_eq_getElem hj]
    simp only [RA, List.drop_eq_getElem_cons hj, List.drop_of_length_le hi, rst_nc, List.map_cons, List.map_nil, minL, List.foldl_nil]
  · rw [List.getElem?_eq_none hi, List.getElem?_eq_none hj]
    simp only [RA, List.drop_of_length_le hi, List.drop_of_length_le hj, rst_nn, List.map_nil, minL]
/-- The steps of the cheapest alignments. -/
def cheapA (i j : Nat) : List Stp := (stepsA d g a b i j).filter fun x => x.2.2 + RA d g a b x.1 x.2.1 == RA d g a b i j
end
/-- A sum, or 2 to the 63. -/
def sat (x y : Nat) : Nat := min (x + y) (2 ^ 63)
theorem sat_comm (x y : Nat) : sat x y = sat y x := by unfold sat; rw [Nat.add_comm]
theorem sat_le (x y : Nat) : sat x y ≤ 2 ^ 63 := Nat.min_le_right _ _
section
variable (d : Snd → Snd → Int) (g : Int)
/-- How many alignments have the smallest cost. -/
def wayN : Nat → List Snd → List Snd → Nat
  | 0, _, _ => 1
  | n + 1, a, b =>
    match a, b with
    | [], [] => 1
    | x :: a, [] => wayN n a []
    | [], y :: b => wayN n [] b
    | x :: a, y :: b =>
      let R := rst d g (x :: a) (y :: b)
      sat (sat (if d x y + rst d g a b = R then wayN n a b else 0) (if g + rst d g a (y :: b) = R then wayN n a (y :: b) else 0)) (if g + rst d g (x :: a) b = R then wayN n (x :: a) b else 0)
theorem wayN_more (n m : Nat) (a b : List Snd) (h : a.length + b.length ≤ n) (h' : a.length + b.length ≤ m) : wayN d g n a b = wayN d g m a b := by
  induction n generalizing m a b with
  | zero =>
    cases a with
    | nil =>
      cases b with
      | nil => cases m <;> rfl
      | cons y b => simp at h
    | cons x a => simp at h
  | succ n ih =>
    cases m with
    | zero =>
      cases a with
      | nil =>
        cases b with
        | nil => rfl
        | cons y b => simp at h'
      | cons x a => simp at h'
    | succ m =>
      cases a with
      | nil =>
        cases b with
        | nil => rfl
        | cons y b => exact ih m [] b (by simp at h ⊢; omega) (by simp at h' ⊢; omega)
      | cons x a =>
        cases b with
        | nil => exact ih m a [] (by simp at h ⊢; omega) (by simp at h' ⊢; omega)
        | cons y b =>
          simp only [List.length_cons] at h h'
          simp only [wayN]
          rw [ih m a b (by omega) (by omega), ih m a (y :: b) (by simp; omega) (by simp; omega), ih m (x :: a) b (by simp; omega) (by simp; omega)]
def way (a b : List Snd) : Nat := wayN d g (a.length + b.length) a b
variable {d g}
theorem way_nn : way d g [] [] = 1 := rfl
theorem way_cn (x : Snd) (a : List Snd) : way d g (x :: a) [] = way d g a [] := by
  unfold way
  rw [show (x :: a).length + ([] : List Snd).length = (a.length + ([] : List Snd).length) + 1 by simp]
  rfl
theorem way_nc (y : Snd) (b : List Snd) : way d g [] (y :: b) = way d g [] b := by
  unfold way
  rw [show ([] : List Snd).length + (y :: b).length = (([] : List Snd).length + b.length) + 1 by simp]
  rfl
theorem wayN_cc (n : Nat) (x : Snd) (a : List Snd) (y : Snd) (b : List Snd) : wayN d g (n + 1) (x :: a) (y :: b) = sat (sat (if d x y + rst d g a b = rst d g (x :: a) (y :: b) then wayN d g n a b else 0) (if g + rst d g a (y :: b) = rst d g (x :: a) (y :: b) then wayN d g n a (y :: b) else 0)) (if g + rst d g (x :: a) b = rst d g (x :: a) (y :: b) then wayN d g n (x :: a) b else 0) := rfl
theorem way_cc (x : Snd) (a : List Snd) (y : Snd) (b : List Snd) : way d g (x :: a) (y :: b) = sat (sat (if d x y + rst d g a b = rst d g (x :: a) (y :: b) then way d g a b else 0) (if g + rst d g a (y :: b) = rst d g (x :: a) (y :: b) then way d g a (y :: b) else 0)) (if g + rst d g (x :: a) b = rst d g (x :: a) (y :: b) then way d g (x :: a) b else 0) := by
  unfold way
  rw [show (x :: a).length + (y :: b).length = (a.length + b.length + 1) + 1 by simp; omega, wayN_cc]
  rw [wayN_more d g _ (a.length + b.length) a b (by omega) (by omega), wayN_more d g _ (a.length + (y :: b).length) a (y :: b) (by simp; omega) (by simp), wayN_more d g _ ((x :: a).length + b.length) (x :: a) b (by simp; omega) (by simp)]
theorem way_le (a b : List Snd) : way d g a b ≤ 2 ^ 63 := by
  refine pair_ind (M := fun a b => way d g a b ≤ 2 ^ 63) (by rw [way_nn]; decide) ?_ ?_ ?_ a b
  · intro y b h; rw [way_nc]; exact h
  · intro x a h; rw [way_cn]; exact h
  · intro x a y b _ _ _; rw [way_cc]; exact sat_le _ _
theorem way_pos (a b : List Snd) : 1 ≤ way d g a b := by
  refine pair_ind (M := fun a b => 1 ≤ way d g a b) (by rw [way_nn]; decide) ?_ ?_ ?_ a b
  · intro y b h; rw [way_nc]; exact h
  · intro x a h; rw [way_cn]; exact h
  · intro x a y b h1 h2 h3
    have h := rst_cc d g x a y b
    rw [way_cc]
    unfold sat
    have hc : d x y + rst d g a b = rst d g (x :: a) (y :: b) ∨ g + rst d g a (y :: b) = rst d g (x :: a) (y :: b) ∨ g + rst d g (x :: a) b = rst d g (x :: a) (y :: b) := by omega
    rcases hc with e | e | e <;> rw [if_pos e] <;> omega
theorem way_comm (hd : ∀ x y, d x y = d y x) (a b : List Snd) : way d g a b = way d g b a := by
  refine pair_ind (M := fun a b => way d g a b = way d g b a) rfl ?_ ?_ ?_ a b
  · intro y b h; rw [way_nc, way_cn, h]
  · intro x a h; rw [way_nc, way_cn, h]
  · intro x a y b h1 h2 h3
    rw [way_cc, way_cc, h1, h2, h3, rst_comm hd (y :: b) (x :: a), rst_comm hd b a, rst_comm hd b (x :: a), rst_comm hd (y :: b) a, hd y x]
    unfold sat
    omega
end
section
variable (d : Snd → Snd → Int) (g : Int) (a b : List Snd)
def WA (i j : Nat) : Nat := way d g (a.drop i) (b.drop j)
theorem sat_zero {x : Nat} (h : x ≤ 2 ^ 63) : sat 0 x = x := by unfold sat; omega
theorem zero_sat {x : Nat} (h : x ≤ 2 ^ 63) : sat x 0 = x := by unfold sat; omega
theorem WA_steps (i j : Nat) : WA d g a b i j = ((cheapA d g a b i j).map fun x => WA d g a b x.1 x.2.1).foldl sat (if a.length ≤ i ∧ b.length ≤ j then 1 else 0) := by
  unfold cheapA stepsA
  rcases Nat.lt_or_ge i a.length with hi | hi <;> rcases Nat.lt_or_ge j b.length with hj | hj
  · rw [List.getElem?_eq_getElem hi, List.getElem?_eq_getElem hj, if_neg (by omega)]
    simp only [RA, WA, List.drop_eq_getElem_cons hi, List.drop_eq_getElem_cons hj, way_cc]
    have hc := rst_cc d g a[i] (a.drop (i + 1)) b[j] (b.drop (j + 1))
    have w1 := way_le (d := d) (g := g) (a.drop (i + 1)) (b.drop (j + 1))
    have w2 := way_le (d := d) (g := g) (a.drop (i + 1)) (b[j] :: b.drop (j + 1))
    have w3 := way_le (d := d) (g := g) (a[i] :: a.drop (i + 1)) (b.drop (j + 1))
    have f3 : ∀ (p q r : Stp → Bool) (X Y Z : Stp), [X, Y, Z].filter p = (if p X = true then [X] else []) ++ (if p Y = true then [Y] else []) ++ (if p Z = true then [Z] else []) := fun p _ _ X Y Z => by
      simp only [List.filter_cons, List.filter_nil]
      cases p X <;> cases p Y <;> cases p Z <;> rfl
    rw [f3 _ (fun _ => true) (fun _ => true)]
    simp only [List.drop_eq_getElem_cons hi, List.drop_eq_getElem_cons hj, beq_iff_eq]
    by_cases e1 : d a[i] b[j] + rst d g (a.drop (i + 1)) (b.drop (j + 1)) = rst d g (a[i] :: a.drop (i + 1)) (b[j] :: b.drop (j + 1)) <;>
    by_cases e2 : g + rst d g (a.drop (i + 1)) (b[j] :: b.drop (j + 1)) = rst d g (a[i] :: a.drop (i + 1)) (b[j] :: b.drop (j + 1)) <;>
    by_cases e3 : g + rst d g (a[i] :: a.drop (i + 1)) (b.drop (j + 1)) = rst d g (a[i] :: a.drop (i + 1)) (b[j] :: b.drop (j + 1)) <;>
    simp only [e1, e2, e3, if_true, if_false, List.nil_append, List.append_nil, List.cons_append, List.map_cons, List.map_nil, List.foldl_cons, List.foldl_nil, List.drop_eq_getElem_cons hi, List.drop_eq_getElem_cons hj] <;>
    simp only [sat] <;> omega
  · rw [List.getElem?_eq_getElem hi, List.getElem?_eq_none hj, if_neg (by omega)]
    simp only [RA, WA, List.drop_eq_getElem_cons hi, List.drop_of_length_le hj, way_cn, rst_cn, List.filter_cons, List.filter_nil, beq_self_eq_true, if_true, List.map_cons, List.map_nil, List.foldl_cons, List.foldl_nil, sat_zero (way_le _ _)]
  · rw [List.getElem?_eq_none hi, List.getElem?_eq_getElem hj, if_neg (by omega)]
    simp only [RA, WA, List.drop_eq_getElem_cons hj, List.drop_of_length_le hi, way_nc, rst_nc, List.filter_cons, List.filter_nil, beq_self_eq_true, if_true, List.map_cons, List.map_nil, List.foldl_cons, List.foldl_nil, sat_zero (way_le _ _)]
  · rw [List.getElem?_eq_none hi, List.getElem?_eq_none hj, if_pos ⟨hi, hj⟩]
    simp only [WA, List.drop_of_length_le hi, List.drop_of_length_le hj, way_nn, List.filter_nil, List.map_nil, List.foldl_nil]
/-- The first alignment of the smallest cost, from two places on. -/
def algA : Nat → Nat → Nat → List (Int × Int)
  | 0, _, _ => []
  | n + 1, i, j =>
    match cheapA d g a b i j with
    | [] => []
    | x :: _ => ((if x.1 = i then -1 else (i : Int)), (if x.2.1 = j then -1 else (j : Int))) :: algA n x.1 x.2.1
def algn : List (Int × Int) := algA d g a b (a.length + b.length) 0 0
/-- A step of an alignment that is given, by its places. -/
def stepQ (i j : Nat) (x : Int × Int) : Option Stp :=
  match a[i]?, b[j]? with
  | some u, some v => if x = ((i : Int), (j : Int)) then some (i + 1, j + 1, d u v) else if x = ((i : Int), -1) then some (i + 1, j, g) else if x = (-1, (j : Int)) then some (i, j + 1, g) else none
  | some _, none => if x = ((i : Int), -1) then some (i + 1, j, g) else none
  | none, some _ => if x = (-1, (j : Int)) then some (i, j + 1, g) else none
  | none, none => none
/-- Its cost from two places on. -/
def scoreA : List (Int × Int) → Nat → Nat → Option Int
  | [], i, j => if a.length ≤ i ∧ b.length ≤ j then some 0 else none
  | x :: l, i, j => (stepQ d g a b i j x).bind fun s => (scoreA l s.1 s.2.1).map (s.2.2 + ·)
end
end Go.Sy
