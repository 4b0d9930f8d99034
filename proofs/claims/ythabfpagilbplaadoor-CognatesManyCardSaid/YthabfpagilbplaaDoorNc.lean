/- Chapter 19, plain: the least common multiple of numbers whose sum is at most 256 is small. -/
import Derived.Test.YthabfpagilbplaaDoorSyMem
set_option linter.unusedSimpArgs false
set_option linter.unusedVariables false
namespace Go.Sy
def prs : List Nat := [2, 3, 5, 7, 11, 13, 17, 19, 23, 29, 31, 37, 41, 43, 47, 53, 59, 61, 67, 71, 73, 79, 83, 89, 97, 101, 103, 107, 109, 113, 127, 131, 137, 139, 149, 151, 157, 163, 167, 173, 179, 181, 191, 193, 197, 199, 211, 223, 227, 229, 233, 239, 241, 251]
def exN : Nat → Nat → Nat → Nat
  | 0, _, _ => 0
  | k + 1, p, n => if n % p = 0 then exN k p (n / p) + 1 else 0
def exP (p n : Nat) : Nat := exN 8 p n
def prodL (l : List Nat) : Nat := l.foldr (· * ·) 1
def sumB (f : Nat → Nat) (l : List Nat) : Nat := (l.map f).sum
def bigP (x : Nat) : Nat := if x = 1 then 0 else x
def okN (n : Nat) : Bool := decide (prodL (prs.map fun p => p ^ exP p n) = n) && decide (sumB (fun p => bigP (p ^ exP p n)) prs ≤ n) && prs.all fun p => decide (p ^ exP p n ≤ n)
theorem okN_all : (List.range 256).all (fun n => okN (n + 1)) = true := by decide +kernel
theorem okN_at {n : Nat} (h1 : 1 ≤ n) (h2 : n ≤ 256) : prodL (prs.map fun p => p ^ exP p n) = n ∧ sumB (fun p => bigP (p ^ exP p n)) prs ≤ n ∧ ∀ p ∈ prs, p ^ exP p n ≤ n := by
  have := List.all_eq_true.1 okN_all (n - 1) (List.mem_range.2 (by omega))
  rw [show n - 1 + 1 = n by omega] at this
  simp only [okN, Bool.and_eq_true, decide_eq_true_eq, List.all_eq_true] at this
  exact ⟨this.1.1, this.1.2, this.2⟩
def mxP (S : List Nat) (p : Nat) : Nat := S.foldr (fun s m => max (exP p s) m) 0
theorem le_mxP {S : List Nat} {p s : Nat} (h : s ∈ S) : exP p s ≤ mxP S p := by
  induction S with
  | nil => simp at h
  | cons x S ih =>
    unfold mxP at *
    rw [List.foldr_cons]
    rcases List.mem_cons.1 h with rfl | h
    · exact Nat.le_max_left ..
    · exact Nat.le_trans (ih h) (Nat.le_max_right ..)
theorem mx_mem {S : List Nat} {p : Nat} (h : mxP S p ≠ 0) : ∃ s ∈ S, mxP S p = exP p s := by
  induction S with
  | nil => exact absurd rfl h
  | cons x S ih =>
    unfold mxP at *
    rw [List.foldr_cons] at h ⊢
    rcases Nat.le_total (exP p x) (S.foldr (fun s m => max (exP p s) m) 0) with h1 | h1
    · rw [Nat.max_eq_right h1] at h ⊢
      obtain ⟨s, hs, e⟩ := ih h
      exact ⟨s, by simp [hs], e⟩
    · rw [Nat.max_eq_left h1]
      exact ⟨x, by simp, rfl⟩
theorem prodL_dvd {l : List Nat} {f g : Nat → Nat} (h : ∀ p ∈ l, f p ∣ g p) : prodL (l.map f) ∣ prodL (l.map g) := by
  induction l with
  | nil => exact Nat.dvd_refl _
  | cons p l ih =>
    simp only [prodL, List.map_cons, List.foldr_cons] at *
    exact Nat.mul_dvd_mul (h p (by simp)) (ih fun q hq => h q (by simp [hq]))
def lcmL (S : List Nat) : Nat := S.foldr Nat.lcm 1
theorem lcmL_dvd {S : List Nat} {M : Nat} (h : ∀ s ∈ S, s ∣ M) : lcmL S ∣ M := by
  induction S with
  | nil => exact Nat.one_dvd _
  | cons s S ih =>
    unfold lcmL at *
    rw [List.foldr_cons]
    exact Nat.lcm_dvd (h s (by simp)) (ih fun x hx => h x (by simp [hx]))
def wgt (p : Nat) : Nat := (List.range 9).foldr (fun e m => if p ^ e ≤ 256 ∧ e ≠ 0 then max m (Nat.log2 ((p ^ e) ^ 16) + 1 - 2 * p ^ e) else m) 0
def okW (p : Nat) : Bool := (List.range 9).all fun e => !decide (p ^ e ≤ 256) || decide ((p ^ e) ^ 16 ≤ 2 ^ (wgt p + 2 * bigP (p ^ e)))
theorem okW_all : prs.all okW = true := by decide +kernel
theorem wgt_sum : (prs.map wgt).sum ≤ 350 := by decide +kernel
theorem prodL_pow {l : List Nat} (f w : Nat → Nat) (h : ∀ p ∈ l, f p ^ 16 ≤ 2 ^ w p) : prodL (l.map f) ^ 16 ≤ 2 ^ (l.map w).sum := by
  induction l with
  | nil => simp [prodL]
  | cons p l ih =>
    simp only [prodL, List.map_cons, List.foldr_cons, List.sum_cons] at *
    rw [Nat.mul_pow, Nat.pow_add]
    exact Nat.mul_le_mul (h p (by simp)) (ih fun q hq => h q (by simp [hq]))
theorem sum_map_add {l : List Nat} (f g : Nat → Nat) : (l.map fun p => f p + g p).sum = (l.map f).sum + (l.map g).sum := by
  induction l with
  | nil => rfl
  | cons p l ih => simp only [List.map_cons, List.sum_cons, ih]; omega
theorem sum_map_mul {l : List Nat} (k : Nat) (f : Nat → Nat) : (l.map fun p => k * f p).sum = k * (l.map f).sum := by
  induction l with
  | nil => rfl
  | cons p l ih => simp only [List.map_cons, List.sum_cons, ih, Nat.mul_add]
theorem sum_map_le {l : List Nat} {f g : Nat → Nat} (h : ∀ p ∈ l, f p ≤ g p) : (l.map f).sum ≤ (l.map g).sum := by
  induction l with
  | nil => exact Nat.le_refl _
  | cons p l ih => simp only [List.map_cons, List.sum_cons]; exact Nat.add_le_add (h p (by simp)) (ih fun q hq => h q (by simp [hq]))
theorem sum_swap (f : Nat → Nat → Nat) (S l : List Nat) : (l.map fun p => (S.map fun s => f p s).sum).sum = (S.map fun s => (l.map fun p => f p s).sum).sum := by
  induction S with
  | nil =>
    simp only [List.map_nil, List.sum_nil]
    induction l with
    | nil => rfl
    | cons p l ih => simp only [List.map_cons, List.sum_cons, ih]; rfl
  | cons s S ih =>
    simp only [List.map_cons, List.sum_cons]
    rw [sum_map_add, ih]
theorem mem_sum {S : List Nat} {s : Nat} (f : Nat → Nat) (h : s ∈ S) : f s ≤ (S.map f).sum := by
  induction S with
  | nil => simp at h
  | cons x S ih =>
    simp only [List.map_cons, List.sum_cons]
    rcases List.mem_cons.1 h with rfl | h
    · omega
    · have := ih h; omega
theorem prs_gt : ∀ p ∈ prs, 1 < p := by decide
theorem mx_le (S : List Nat) (p : Nat) : mxP S p ≤ 8 := by
  have h8 : ∀ k p n, exN k p n ≤ k := fun k => by
    induction k with
    | zero => intro p n; exact Nat.le_refl _
    | succ k ih =>
      intro p n
      unfold exN
      split
      · exact Nat.succ_le_succ (ih _ _)
      · exact Nat.zero_le _
  by_cases h : mxP S p = 0
  · omega
  · obtain ⟨s, _, e⟩ := mx_mem h
    rw [e]; exact h8 8 p s
theorem pow_pow54 (n : Nat) : (2 ^ 54) ^ n = 2 ^ (54 * n) := (Nat.pow_mul 2 54 n).symm
theorem root54 {M w n : Nat} (h : M ^ n ≤ 2 ^ w) (hw : w ≤ 54 * n) (hn : n ≠ 0) : M ≤ 2 ^ 54 := by
  have h3 : M ^ n ≤ (2 ^ 54) ^ n := by
    rw [pow_pow54]
    exact Nat.le_trans h (Nat.pow_le_pow_right Nat.zero_lt_two hw)
  rcases Nat.lt_or_ge (2 ^ 54) M with h | h
  · exact absurd (Nat.lt_of_lt_of_le (Nat.pow_lt_pow_left h hn) h3) (Nat.lt_irrefl _)
  · exact h
theorem landau {S : List Nat} (h1 : ∀ s ∈ S, 1 ≤ s) (hs : S.sum ≤ 256) : lcmL S ≤ 2 ^ 54 := by
  have hle : ∀ s ∈ S, s ≤ 256 := fun s h => by
    have := mem_sum (S := S) id h
    rw [List.map_id] at this
    exact Nat.le_trans this hs
  have hd : lcmL S ∣ prodL (prs.map fun p => p ^ mxP S p) := lcmL_dvd fun s h => by
    have h2 := (okN_at (h1 s h) (hle s h)).1
    rw [← h2]
    have : prodL (prs.map fun p => p ^ exP p s) ∣ prodL (prs.map fun p => p ^ mxP S p) := prodL_dvd fun p _ => Nat.pow_dvd_pow p (le_mxP h)
    rw [h2] at this ⊢
    exact this
  have hpos : 0 < prodL (prs.map fun p => p ^ mxP S p) := by
    have : ∀ l : List Nat, (∀ p ∈ l, 1 < p) → 0 < prodL (l.map fun p => p ^ mxP S p) := fun l => by
      induction l with
      | nil => intro _; exact Nat.one_pos
      | cons p l ih =>
        intro h
        simp only [prodL, List.map_cons, List.foldr_cons] at *
        exact Nat.mul_pos (Nat.pow_pos (by have := h p (by simp); omega)) (ih fun q hq => h q (by simp [hq]))
    exact this prs prs_gt
  have hM : prodL (prs.map fun p => p ^ mxP S p) ^ 16 ≤ 2 ^ (prs.map fun p => wgt p + 2 * bigP (p ^ mxP S p)).sum := prodL_pow _ _ fun p hp => by
    have hw := List.all_eq_true.1 okW_all p hp
    unfold okW at hw
    have := List.all_eq_true.1 hw (mxP S p) (List.mem_range.2 (by have := mx_le S p; omega))
    simp only [Bool.or_eq_true, Bool.not_eq_true', decide_eq_false_iff_not, decide_eq_true_eq] at this
    rcases this with h | h
    · exfalso
      apply h
      by_cases h0 : mxP S p = 0
      · rw [h0, Nat.pow_zero]; decide
      · obtain ⟨s, hs', e⟩ := mx_mem h0
        rw [e]
        exact Nat.le_trans ((okN_at (h1 s hs') (hle s hs')).2.2 p hp) (hle s hs')
    · exact h
  have hb : (prs.map fun p => bigP (p ^ mxP S p)).sum ≤ 256 := by
    have e1 : (prs.map fun p => bigP (p ^ mxP S p)).sum ≤ (prs.map fun p => (S.map fun s => bigP (p ^ exP p s)).sum).sum := sum_map_le fun p hp => by
      by_cases h0 : mxP S p = 0
      · rw [h0]; simp [bigP]
      · obtain ⟨s, hs', e⟩ := mx_mem h0
        rw [e]
        exact mem_sum (fun s => bigP (p ^ exP p s)) hs'
    rw [sum_swap (fun p s => bigP (p ^ exP p s)) S prs] at e1
    have e2 : (S.map fun s => (prs.map fun p => bigP (p ^ exP p s)).sum).sum ≤ (S.map id).sum := sum_map_le fun s h => (okN_at (h1 s h) (hle s h)).2.1
    rw [List.map_id] at e2
    omega
  have hsum : (prs.map fun p => wgt p + 2 * bigP (p ^ mxP S p)).sum ≤ 862 := by
    rw [sum_map_add, sum_map_mul]
    have := wgt_sum
    omega
  have h4 := root54 hM (Nat.le_trans hsum (show 862 ≤ 54 * 16 by decide)) (by decide)
  exact Nat.le_trans (Nat.le_of_dvd hpos hd) h4
end Go.Sy
